/-
  Vectors: the law's value.
-/
import Derived.Test.YtaoflhddcbmacaaVecFill
import Derived.Test.YtaoflhddcbmacaaVec4
namespace Go.Proofs.Ytaoflhddcbmacaa
open Go Go.ChangeShapes Go.WideShapes Go.ChangeAt Go.RowKit Go.Joins
open Go.Proofs.Ytaoflhddcbmacaa.Ft (V3 vV okV ValsAt inlineB legalB packF codeF typedF allF)
set_option linter.unusedVariables false
set_option linter.unusedSimpArgs false

def widF (n : Int) : Int := if 2147483648 ≤ n then 8 else if 32768 ≤ n then 4 else if 128 ≤ n then 2 else 1
def kindF (k : Int) : Int := if k = 0 then 5 else if k = 1 then 4 else if k = 2 then 10 else if k = 3 then 6 else 9
def shlF (k : Int) : Int := if k = 0 then 1 else if k = 1 then 2 else if k = 2 then 4 else 8
def farF (n a : Int) : V3 := (kindF (n % 5), shlF (n / 5 % 4), n % max a 1)
def valN (k n a : Int) : V3 :=
  if k = 0 then (1, widF n, n) else if k = 1 then (1, widF n, IntKind.u64.wrap (-n)) else if k = 2 then (2, widF n, n) else if k = 3 then (26, 1, n % 2) else farF n a
def valF (x : Int × Int) (a : Int) : V3 := valN (x.1 % 6) (x.2 % 1099511627776) a
abbrev pairV (x : Int × Int) : Value := .agg #[.int .i64 x.1, .int .i64 x.2]
/-- The table of the far kinds. -/
abbrev tabC : Array Value := #[.int .i64 5, .int .i64 4, .int .i64 10, .int .i64 6, .int .i64 9]
theorem tab_cell (k : Nat) (hk : k < 5) : tabC[k]? = some (.int .i64 (kindF k)) := by
  rcases (show k = 0 ∨ k = 1 ∨ k = 2 ∨ k = 3 ∨ k = 4 by omega) with rfl | rfl | rfl | rfl | rfl <;> rfl
theorem shl_small (k : Nat) (hk : k < 4) : IntKind.i64.wrap ((2 : Int) ^ k) = shlF k := by
  rcases (show k = 0 ∨ k = 1 ∨ k = 2 ∨ k = 3 by omega) with rfl | rfl | rfl | rfl <;> rfl
theorem tab_st : ∀ (v : Value) (w w' : World), Grew w w' → (∃ g, v = .slice (some ⟨g, 0, none⟩) 5 5 ∧ w.heap[g]? = some (.cells tabC 3)) → (∃ g, v = .slice (some ⟨g, 0, none⟩) 5 5 ∧ w'.heap[g]? = some (.cells tabC 3)) := fun v w w' hg ⟨g, h1, h2⟩ => ⟨g, h1, hg.heap h2⟩
theorem tabp_st {k5 : Nat} : ∀ (v : Value) (w w' : World), Grew w w' → (∃ g, v = .pointer (some ⟨g, k5, none⟩) ∧ w.heap[g]? = some (.cells tabC 3)) → (∃ g, v = .pointer (some ⟨g, k5, none⟩) ∧ w'.heap[g]? = some (.cells tabC 3)) := fun v w w' hg ⟨g, h1, h2⟩ => ⟨g, h1, hg.heap h2⟩
set_option maxRecDepth 100000 in
set_option maxHeartbeats 4000000 in
theorem value_any (x : Int × Int) (a : Int) (w : World) (h0 : 0 ≤ a) (h1 : a ≤ 4611686018427387904) : Calls Try.prog 22 #[pairV x, .int .i64 a] w fun r w' => r = .returned (vV (valF x a)) ∧ Grew w w' := by
  obtain ⟨x0, x1⟩ := x
  show Calls Try.prog 22 #[.agg #[.int .i64 x0, .int .i64 x1], .int .i64 a] w _
  have HR : Hid (valF (x0, x1) a = valN (x0 % 6) (x1 % 1099511627776) a) := rfl
  generalize valF (x0, x1) a = R at *
  go_enter Try.func22, Try.ntmps22
  go_wp2_with fail
  refine (bringL_any x1 1099511627776 _ (by omega) (by omega)).mono ?_
  rintro r w1 ⟨rfl, rfl⟩
  have n0 : 0 ≤ x1 % 1099511627776 := by omega
  have n1 : x1 % 1099511627776 < 1099511627776 := by omega
  generalize x1 % 1099511627776 = n at *
  generalize hW : ((w.alloc (.cells #[.int .i64 x0, .int .i64 x1] 38)).alloc (.cells #[.int .i64 0, .int .i64 0, .int .u64 0] 28)) = W
  have HG : Hid (Grew w W) := by subst hW; exact ((Grew.refl w).alloc _).alloc _
  have hx : W.heap[w.heap.size]? = some (.cells #[.int .i64 x0, .int .i64 x1] 38) := by subst hW; exact ((Grew.refl _).alloc _).heap (heap_alloc_new _ _)
  have hr : W.heap[w.heap.size + 1]? = some (.cells #[.int .i64 0, .int .i64 0, .int .u64 0] 28) := by
    subst hW
    have h := heap_alloc_new (w.alloc (.cells #[.int .i64 x0, .int .i64 x1] 38)) (.cells #[.int .i64 0, .int .i64 0, .int .u64 0] 28)
    simpa using h
  have cx := row_cell hx 0 _ rfl
  have HROW := Lib.hid hr
  clear hW hx hr
  go_wp2_with fail
  go_loopw [6] (fun i wr => ∃ k : Int, i = .int .i64 k ∧ wr = W ∧ Hid ((k = 8) ∨ (k = 4 ∧ n < 2147483648) ∨ (k = 2 ∧ n < 32768) ∨ (k = 1 ∧ n < 128))) (fun i _ => (intOf i).toNat)
  case atStart => exact ⟨8, rfl, rfl, .inl rfl⟩
  case round =>
    obtain ⟨k, rfl, rfl, HK⟩ := hrel
    rcases HK.out with k8 | ⟨k4, hq⟩ | ⟨k2, hq⟩ | ⟨k1, hq⟩
    · subst k8
      clear HK
      by_cases hn : n < 2147483648
      · go_wp2
        go_roundw
        case rel => exact ⟨4, rfl, trivial, by show _ ∨ _; omega⟩
        case measure => simp [intOf]
      · have HE : Hid (widF n = 8) := by show _ = _; unfold widF; repeat' split; all_goals omega
        go_wp2_with fail
        refine (bringL_any x0 6 _ (by omega) (by omega)).mono ?_
        rintro r w1 ⟨rfl, rfl⟩
        have m0 : 0 ≤ x0 % 6 := by omega
        have m1 : x0 % 6 < 6 := by omega
        generalize x0 % 6 = m at *
        by_cases e0 : m = 0
        · subst e0
          have HF : Hid (R = (1, 8, n)) := HR.out.trans (by simp [valN, HE.out])
          have hmw : IntKind.u64.wrap n = n := by rw [IntKind.wrap_u64]; omega
          go_wp2_with fail
          refine (num17_any n 8 _).mono ?_
          rintro r w2 ⟨rfl, hg⟩
          have HG2 := Lib.hid (HG.out.trans hg)
          have hrow := hg.heap HROW.out
          have f0 := row_frozen hrow 0
          have f1 := row_frozen hrow 1
          have f2 := row_frozen hrow 2
          have c0 := row_cell hrow 0 _ rfl
          have c1 := row_cell hrow 1 _ rfl
          have c2 := row_cell hrow 2 _ rfl
          clear hrow
          clear hg
          go_wp2
          refine bodyPost_ret (v := vV (1, 8, n)) (by simp [results, Try.results22, go_sem, c0, c1, c2, vV]) rfl ⟨by rw [HF.out], ((HG2.out.setCell (Nat.le_succ _) _).setCell (Nat.le_succ _) _).setCell (Nat.le_succ _) _⟩
        by_cases e1 : m = 1
        · subst e1
          have HF : Hid (R = (1, 8, IntKind.u64.wrap (-n))) := HR.out.trans (by simp [valN, HE.out])
          go_wp2_with fail
          refine (num17_any (-n) 8 _).mono ?_
          rintro r w2 ⟨rfl, hg⟩
          have HG2 := Lib.hid (HG.out.trans hg)
          have hrow := hg.heap HROW.out
          have f0 := row_frozen hrow 0
          have f1 := row_frozen hrow 1
          have f2 := row_frozen hrow 2
          have c0 := row_cell hrow 0 _ rfl
          have c1 := row_cell hrow 1 _ rfl
          have c2 := row_cell hrow 2 _ rfl
          clear hrow
          clear hg
          go_wp2
          refine bodyPost_ret (v := vV (1, 8, IntKind.u64.wrap (-n))) (by simp [results, Try.results22, go_sem, c0, c1, c2, vV]) rfl ⟨by rw [HF.out], ((HG2.out.setCell (Nat.le_succ _) _).setCell (Nat.le_succ _) _).setCell (Nat.le_succ _) _⟩
        by_cases e2 : m = 2
        · subst e2
          have HF : Hid (R = (2, 8, n)) := HR.out.trans (by simp [valN, HE.out])
          have hmw : IntKind.u64.wrap n = n := by rw [IntKind.wrap_u64]; omega
          go_wp2_with fail
          refine (uns17_any n 8 _).mono ?_
          rintro r w2 ⟨rfl, hg⟩
          have HG2 := Lib.hid (HG.out.trans hg)
          have hrow := hg.heap HROW.out
          have f0 := row_frozen hrow 0
          have f1 := row_frozen hrow 1
          have f2 := row_frozen hrow 2
          have c0 := row_cell hrow 0 _ rfl
          have c1 := row_cell hrow 1 _ rfl
          have c2 := row_cell hrow 2 _ rfl
          clear hrow
          clear hg
          go_wp2
          refine bodyPost_ret (v := vV (2, 8, n)) (by simp [results, Try.results22, go_sem, c0, c1, c2, vV]) rfl ⟨by rw [HF.out], ((HG2.out.setCell (Nat.le_succ _) _).setCell (Nat.le_succ _) _).setCell (Nat.le_succ _) _⟩
        by_cases e3 : m = 3
        · subst e3
          have HF : Hid (R = (26, 1, n % 2)) := HR.out.trans (by simp [valN, HE.out])
          have em : n.tmod 2 = n % 2 := Int.tmod_eq_emod_of_nonneg n0
          have hm0 : 0 ≤ n % 2 := by omega
          have hm1 : n % 2 < 2 := by omega
          have hmw : IntKind.u64.wrap (n % 2) = n % 2 := by rw [IntKind.wrap_u64]; omega
          have HG2 := Lib.hid HG.out
          have hrow := HROW.out
          have f0 := row_frozen hrow 0
          have f1 := row_frozen hrow 1
          have f2 := row_frozen hrow 2
          have c0 := row_cell hrow 0 _ rfl
          have c1 := row_cell hrow 1 _ rfl
          have c2 := row_cell hrow 2 _ rfl
          clear hrow
          go_wp2
          refine bodyPost_ret (v := vV (26, 1, n % 2)) (by simp [results, Try.results22, go_sem, c0, c1, c2, vV]) rfl ⟨by rw [HF.out], ((HG2.out.setCell (Nat.le_succ _) _).setCell (Nat.le_succ _) _).setCell (Nat.le_succ _) _⟩
        have HF : Hid (R = farF n a) := HR.out.trans (by simp [valN, e0, e1, e2, e3])
        go_wp2_with fail
        have b0 : (m == 0) = false := by simpa using e0
        have b1 : (m == 1) = false := by simpa using e1
        have b2 : (m == 2) = false := by simpa using e2
        have b3 : (m == 3) = false := by simpa using e3
        simp only [b0, b1, b2, b3]
        clear b0 b1 b2 b3 e0 e1 e2 e3 m0 m1
        clear HR
        obtain ⟨k5, hk5⟩ : ∃ k : Nat, n % 5 = k := ⟨(n % 5).toNat, by omega⟩
        obtain ⟨k4, hk4⟩ : ∃ k : Nat, n / 5 % 4 = k := ⟨(n / 5 % 4).toNat, by omega⟩
        have l5 : k5 < 5 := by omega
        have l4 : k4 < 4 := by omega
        obtain ⟨am, ham⟩ : ∃ m : Int, max a 1 = m := ⟨_, rfl⟩
        have am1 : 1 ≤ am := by omega
        have am2 : am ≤ 4611686018427387904 := by omega
        obtain ⟨q, hq⟩ : ∃ q : Int, n / 5 = q := ⟨_, rfl⟩
        rw [hq] at hk4
        have q0 : 0 ≤ q := by omega
        have q1 : q ≤ 1099511627776 := by omega
        obtain ⟨rr, hrr⟩ : ∃ r : Int, n % am = r := ⟨_, rfl⟩
        have ham0 : ¬ am = 0 := by omega
        replace HF : Hid (R = (kindF k5, shlF k4, rr)) := HF.out.trans (by unfold farF; rw [hk5, hq, hk4, ham, hrr])
        have t5 : n.tmod 5 = (k5 : Int) := by rw [Int.tmod_eq_emod_of_nonneg n0]; exact hk5
        have d5 : n.tdiv 5 = q := by rw [Int.tdiv_eq_ediv_of_nonneg n0]; exact hq
        have t4 : q.tmod 4 = (k4 : Int) := by rw [Int.tmod_eq_emod_of_nonneg q0]; exact hk4
        have tm : n.tmod am = rr := by rw [Int.tmod_eq_emod_of_nonneg n0]; exact hrr
        have r0 : 0 ≤ rr := by rw [← hrr]; exact Int.emod_nonneg _ (by omega)
        have r1 : rr < am := by rw [← hrr]; exact Int.emod_lt_of_pos _ (by omega)
        have HAM := Lib.hid ham
        have qw : IntKind.i64.wrap q = q := by rw [IntKind.wrap_i64]; omega
        have rw1 : IntKind.u64.wrap rr = rr := by rw [IntKind.wrap_u64]; omega
        have i5 : (k5 : Int) < 5 := by omega
        clear hk5 hk4 ham hq hrr
        refine wp_region_last Grew [[], [], [1], [0, 2], [3], [], [5], [6], [7], [], [], [10], [9, 11], [12], [4, 8, 13], [14]] [[(50, 1), (51, 2), (53, 4), (54, 5), (55, 6), (56, 7), (57, 8), (58, 9), (59, 10), (60, 11), (61, 12), (62, 13), (63, 14)], [(49, 0), (52, 3), (53, 4), (54, 5), (55, 6), (56, 7), (57, 8), (58, 9), (59, 10), (60, 11), (61, 12), (62, 13), (63, 14)], [(49, 0), (50, 1), (53, 4), (54, 5), (55, 6), (56, 7), (57, 8), (58, 9), (59, 10), (60, 11), (61, 12), (62, 13), (63, 14)], [(49, 0), (50, 1), (51, 2), (54, 5), (55, 6), (56, 7), (57, 8), (58, 9), (59, 10), (60, 11), (61, 12), (62, 13), (63, 14)], [(49, 0), (50, 1), (51, 2), (52, 3), (54, 5), (55, 6), (56, 7), (57, 8), (58, 9), (59, 10), (60, 11), (61, 12), (62, 13)], [(49, 0), (50, 1), (51, 2), (52, 3), (53, 4), (56, 7), (57, 8), (58, 9), (59, 10), (60, 11), (61, 12), (62, 13), (63, 14)], [(49, 0), (50, 1), (51, 2), (52, 3), (53, 4), (54, 5), (57, 8), (58, 9), (59, 10), (60, 11), (61, 12), (62, 13), (63, 14)], [(49, 0), (50, 1), (51, 2), (52, 3), (53, 4), (54, 5), (55, 6), (58, 9), (59, 10), (60, 11), (61, 12), (62, 13), (63, 14)], [(49, 0), (50, 1), (51, 2), (52, 3), (53, 4), (54, 5), (55, 6), (56, 7), (58, 9), (59, 10), (60, 11), (61, 12), (62, 13)], [(49, 0), (50, 1), (51, 2), (52, 3), (53, 4), (54, 5), (55, 6), (56, 7), (57, 8), (59, 10), (60, 11), (62, 13), (63, 14)], [(49, 0), (50, 1), (51, 2), (52, 3), (53, 4), (54, 5), (55, 6), (56, 7), (57, 8), (58, 9), (61, 12), (62, 13), (63, 14)], [(49, 0), (50, 1), (51, 2), (52, 3), (53, 4), (54, 5), (55, 6), (56, 7), (57, 8), (58, 9), (59, 10), (62, 13), (63, 14)], [(49, 0), (50, 1), (51, 2), (52, 3), (53, 4), (54, 5), (55, 6), (56, 7), (57, 8), (58, 9), (59, 10), (60, 11), (63, 14)], [(49, 0), (50, 1), (51, 2), (52, 3), (53, 4), (54, 5), (55, 6), (56, 7), (57, 8), (58, 9), (59, 10), (60, 11), (61, 12)], [(49, 0), (50, 1), (51, 2), (52, 3), (53, 4), (54, 5), (55, 6), (56, 7), (57, 8), (58, 9), (59, 10), (60, 11), (61, 12), (62, 13)], [(49, 0), (50, 1), (51, 2), (52, 3), (53, 4), (54, 5), (55, 6), (56, 7), (57, 8), (58, 9), (59, 10), (60, 11), (61, 12), (62, 13), (63, 14)]]
          [fun v w => ∃ g, v = .slice (some ⟨g, 0, none⟩) 5 5 ∧ w.heap[g]? = some (.cells tabC 3), Is (.int .i64 n), Is (.int .i64 (k5 : Int)), fun v w => ∃ g, v = .pointer (some ⟨g, k5, none⟩) ∧ w.heap[g]? = some (.cells tabC 3), Is (.int .i64 (kindF k5)), Is (.int .i64 n), Is (.int .i64 q), Is (.int .i64 (k4 : Int)), Is (.int .i64 (shlF k4)), Is (.int .i64 n), Is (.int .i64 a), Is (.int .i64 am), Is (.int .i64 rr), Is (.int .u64 rr), Is (.agg #[.int .i64 (kindF k5), .int .i64 (shlF k4), .int .u64 rr])]
          (by kernel_rfl) Grew.trans Grew.refl (Grew.refl _).drew (by kernel_rfl) ⟨tab_st, is_st, is_st, tabp_st, is_st, is_st, is_st, is_st, is_st, is_st, is_st, is_st, is_st, is_st, is_st, trivial⟩ rfl ⟨?_, ?_, ?_, ?_, ?_, ?_, ?_, ?_, ?_, ?_, ?_, ?_, ?_, ?_, ?_, trivial⟩ ?_ rfl
        · intro y w2 hG hD K hK
          simp only [fillL, Act.put, List.setIfInBounds_toArray, List.set_cons_zero, List.set_cons_succ, List.getD_cons_zero, List.getD_cons_succ, Is] at hK ⊢
          refine ite_yes (by rfl) ?_
          go_simp
          exact hK _ _ _ rfl ((Grew.refl _).alloc _) ⟨_, rfl, heap_alloc_new _ _⟩
        · intro y w2 hG hD K hK
          simp only [fillL, Act.put, List.setIfInBounds_toArray, List.set_cons_zero, List.set_cons_succ, List.getD_cons_zero, List.getD_cons_succ, Is] at hK ⊢
          refine ite_yes (by rfl) ?_
          go_simp
          exact hK _ _ _ rfl (Grew.refl _) rfl
        · intro y w2 hG hD K hK
          simp only [depsH, List.getD_cons_zero, List.getD_cons_succ, Is, and_true] at hD
          have h1 := hD
          clear hD
          simp only [fillL, Act.put, List.setIfInBounds_toArray, List.set_cons_zero, List.set_cons_succ, List.getD_cons_zero, List.getD_cons_succ, Is] at hK ⊢
          rw [h1] at hK ⊢
          clear h1
          refine ite_yes (by rfl) ?_
          go_simp
          exact hK _ _ _ rfl (Grew.refl _) rfl
        · intro y w2 hG hD K hK
          simp only [depsH, List.getD_cons_zero, List.getD_cons_succ, Is, and_true] at hD
          have h0 := hD.1
          have h2 := hD.2
          clear hD
          simp only [fillL, Act.put, List.setIfInBounds_toArray, List.set_cons_zero, List.set_cons_succ, List.getD_cons_zero, List.getD_cons_succ, Is] at hK ⊢
          rw [h2] at hK ⊢
          clear h2
          refine ite_yes (by rfl) ?_
          refine Exists.elim h0 fun g h => ?_
          have hs := h.1
          have hh := h.2
          clear h h0
          rw [hs] at hK ⊢
          go_simp
          exact hK _ _ _ rfl (Grew.refl _) ⟨g, rfl, hh⟩
        · intro y w2 hG hD K hK
          simp only [depsH, List.getD_cons_zero, List.getD_cons_succ, Is, and_true] at hD
          have h3 := hD
          clear hD
          simp only [fillL, Act.put, List.setIfInBounds_toArray, List.set_cons_zero, List.set_cons_succ, List.getD_cons_zero, List.getD_cons_succ, Is] at hK ⊢
          refine ite_yes (by rfl) ?_
          refine Exists.elim h3 fun g h => ?_
          have hs := h.1
          have hc := row_cell h.2 k5 _ (tab_cell k5 l5)
          clear h h3
          rw [hs] at hK ⊢
          go_simp
          exact hK _ _ _ rfl (Grew.refl _) rfl
        · intro y w2 hG hD K hK
          simp only [fillL, Act.put, List.setIfInBounds_toArray, List.set_cons_zero, List.set_cons_succ, List.getD_cons_zero, List.getD_cons_succ, Is] at hK ⊢
          refine ite_yes (by rfl) ?_
          go_simp
          exact hK _ _ _ rfl (Grew.refl _) rfl
        · intro y w2 hG hD K hK
          simp only [depsH, List.getD_cons_zero, List.getD_cons_succ, Is, and_true] at hD
          have h5 := hD
          clear hD
          simp only [fillL, Act.put, List.setIfInBounds_toArray, List.set_cons_zero, List.set_cons_succ, List.getD_cons_zero, List.getD_cons_succ, Is] at hK ⊢
          rw [h5] at hK ⊢
          clear h5
          refine ite_yes (by rfl) ?_
          go_simp
          exact hK _ _ _ rfl (Grew.refl _) rfl
        · intro y w2 hG hD K hK
          simp only [depsH, List.getD_cons_zero, List.getD_cons_succ, Is, and_true] at hD
          have h6 := hD
          clear hD
          simp only [fillL, Act.put, List.setIfInBounds_toArray, List.set_cons_zero, List.set_cons_succ, List.getD_cons_zero, List.getD_cons_succ, Is] at hK ⊢
          rw [h6] at hK ⊢
          clear h6
          refine ite_yes (by rfl) ?_
          go_simp
          exact hK _ _ _ rfl (Grew.refl _) rfl
        · intro y w2 hG hD K hK
          simp only [depsH, List.getD_cons_zero, List.getD_cons_succ, Is, and_true] at hD
          have h7 := hD
          clear hD
          simp only [fillL, Act.put, List.setIfInBounds_toArray, List.set_cons_zero, List.set_cons_succ, List.getD_cons_zero, List.getD_cons_succ, Is] at hK ⊢
          rw [h7] at hK ⊢
          clear h7
          refine ite_yes (by rfl) ?_
          go_simp
          exact hK _ _ _ rfl (Grew.refl _) (congrArg (Value.int _) (shl_small k4 l4))
        · intro y w2 hG hD K hK
          simp only [fillL, Act.put, List.setIfInBounds_toArray, List.set_cons_zero, List.set_cons_succ, List.getD_cons_zero, List.getD_cons_succ, Is] at hK ⊢
          refine ite_yes (by rfl) ?_
          go_simp
          exact hK _ _ _ rfl (Grew.refl _) rfl
        · intro y w2 hG hD K hK
          simp only [fillL, Act.put, List.setIfInBounds_toArray, List.set_cons_zero, List.set_cons_succ, List.getD_cons_zero, List.getD_cons_succ, Is] at hK ⊢
          refine ite_yes (by rfl) ?_
          go_simp
          exact hK _ _ _ rfl (Grew.refl _) rfl
        · intro y w2 hG hD K hK
          simp only [depsH, List.getD_cons_zero, List.getD_cons_succ, Is, and_true] at hD
          have h10 := hD
          clear hD
          simp only [fillL, Act.put, List.setIfInBounds_toArray, List.set_cons_zero, List.set_cons_succ, List.getD_cons_zero, List.getD_cons_succ, Is] at hK ⊢
          rw [h10] at hK ⊢
          clear h10
          refine ite_yes (by rfl) ?_
          go_simp
          exact hK _ _ _ rfl (Grew.refl _) (congrArg (Value.int _) HAM.out)
        · intro y w2 hG hD K hK
          simp only [depsH, List.getD_cons_zero, List.getD_cons_succ, Is, and_true] at hD
          have h9 := hD.1
          have h11 := hD.2
          clear hD
          simp only [fillL, Act.put, List.setIfInBounds_toArray, List.set_cons_zero, List.set_cons_succ, List.getD_cons_zero, List.getD_cons_succ, Is] at hK ⊢
          rw [h9, h11] at hK ⊢
          clear h9 h11
          refine ite_yes (by rfl) ?_
          go_simp
          exact hK _ _ _ rfl (Grew.refl _) rfl
        · intro y w2 hG hD K hK
          simp only [depsH, List.getD_cons_zero, List.getD_cons_succ, Is, and_true] at hD
          have h12 := hD
          clear hD
          simp only [fillL, Act.put, List.setIfInBounds_toArray, List.set_cons_zero, List.set_cons_succ, List.getD_cons_zero, List.getD_cons_succ, Is] at hK ⊢
          rw [h12] at hK ⊢
          clear h12
          refine ite_yes (by rfl) ?_
          go_simp
          exact hK _ _ _ rfl (Grew.refl _) rfl
        · intro y w2 hG hD K hK
          simp only [depsH, List.getD_cons_zero, List.getD_cons_succ, Is, and_true] at hD
          have h4 := hD.1
          have h8 := hD.2.1
          have h13 := hD.2.2
          clear hD
          simp only [fillL, Act.put, List.setIfInBounds_toArray, List.set_cons_zero, List.set_cons_succ, List.getD_cons_zero, List.getD_cons_succ, Is] at hK ⊢
          rw [h4, h8, h13] at hK ⊢
          clear h4 h8 h13
          refine ite_yes (by rfl) ?_
          go_simp
          exact hK _ _ _ rfl (Grew.refl _) rfl
        · intro y w2 hG hF K hK
          simp only [factsH, Is, and_true, Nat.reduceAdd] at hF
          have h0 := hF.1
          have h1 := hF.2.1
          have h2 := hF.2.2.1
          have h3 := hF.2.2.2.1
          have h4 := hF.2.2.2.2.1
          have h5 := hF.2.2.2.2.2.1
          have h6 := hF.2.2.2.2.2.2.1
          have h7 := hF.2.2.2.2.2.2.2.1
          have h8 := hF.2.2.2.2.2.2.2.2.1
          have h9 := hF.2.2.2.2.2.2.2.2.2.1
          have h10 := hF.2.2.2.2.2.2.2.2.2.2.1
          have h11 := hF.2.2.2.2.2.2.2.2.2.2.2.1
          have h12 := hF.2.2.2.2.2.2.2.2.2.2.2.2.1
          have h13 := hF.2.2.2.2.2.2.2.2.2.2.2.2.2.1
          have h14 := hF.2.2.2.2.2.2.2.2.2.2.2.2.2.2
          clear hF
          simp only [lastOf]
          simp only [fillL, Act.put, List.setIfInBounds_toArray, List.set_cons_zero, List.set_cons_succ, List.getD_cons_zero, List.getD_cons_succ, Is] at hK ⊢
          rw [h1, h2, h4, h5, h6, h7, h8, h9, h10, h11, h12, h13, h14]
          clear h1 h2 h4 h5 h6 h7 h8 h9 h10 h11 h12 h13 h14
          refine ite_yes (by rfl) ?_
          have HG2 := Lib.hid (HG.out.trans hG)
          have hrow := hG.heap HROW.out
          have f0 := row_frozen hrow 0
          have f1 := row_frozen hrow 1
          have f2 := row_frozen hrow 2
          have c0 := row_cell hrow 0 _ rfl
          have c1 := row_cell hrow 1 _ rfl
          have c2 := row_cell hrow 2 _ rfl
          clear hrow hG
          go_simp
          refine hK _ _ ?_
          go_wp2
          refine bodyPost_ret (v := vV (kindF k5, shlF k4, rr)) (by simp [results, Try.results22, go_sem, c0, c1, c2, vV]) rfl ⟨by rw [HF.out], ((HG2.out.setCell (Nat.le_succ _) _).setCell (Nat.le_succ _) _).setCell (Nat.le_succ _) _⟩
    · subst k4
      clear HK
      by_cases hn : n < 32768
      · go_wp2
        go_roundw
        case rel => exact ⟨2, rfl, trivial, by show _ ∨ _; omega⟩
        case measure => simp [intOf]
      · have HE : Hid (widF n = 4) := by show _ = _; unfold widF; repeat' split; all_goals omega
        go_wp2_with fail
        refine (bringL_any x0 6 _ (by omega) (by omega)).mono ?_
        rintro r w1 ⟨rfl, rfl⟩
        have m0 : 0 ≤ x0 % 6 := by omega
        have m1 : x0 % 6 < 6 := by omega
        generalize x0 % 6 = m at *
        by_cases e0 : m = 0
        · subst e0
          have HF : Hid (R = (1, 4, n)) := HR.out.trans (by simp [valN, HE.out])
          have hmw : IntKind.u64.wrap n = n := by rw [IntKind.wrap_u64]; omega
          go_wp2_with fail
          refine (num17_any n 4 _).mono ?_
          rintro r w2 ⟨rfl, hg⟩
          have HG2 := Lib.hid (HG.out.trans hg)
          have hrow := hg.heap HROW.out
          have f0 := row_frozen hrow 0
          have f1 := row_frozen hrow 1
          have f2 := row_frozen hrow 2
          have c0 := row_cell hrow 0 _ rfl
          have c1 := row_cell hrow 1 _ rfl
          have c2 := row_cell hrow 2 _ rfl
          clear hrow
          clear hg
          go_wp2
          refine bodyPost_ret (v := vV (1, 4, n)) (by simp [results, Try.results22, go_sem, c0, c1, c2, vV]) rfl ⟨by rw [HF.out], ((HG2.out.setCell (Nat.le_succ _) _).setCell (Nat.le_succ _) _).setCell (Nat.le_succ _) _⟩
        by_cases e1 : m = 1
        · subst e1
          have HF : Hid (R = (1, 4, IntKind.u64.wrap (-n))) := HR.out.trans (by simp [valN, HE.out])
          go_wp2_with fail
          refine (num17_any (-n) 4 _).mono ?_
          rintro r w2 ⟨rfl, hg⟩
          have HG2 := Lib.hid (HG.out.trans hg)
          have hrow := hg.heap HROW.out
          have f0 := row_frozen hrow 0
          have f1 := row_frozen hrow 1
          have f2 := row_frozen hrow 2
          have c0 := row_cell hrow 0 _ rfl
          have c1 := row_cell hrow 1 _ rfl
          have c2 := row_cell hrow 2 _ rfl
          clear hrow
          clear hg
          go_wp2
          refine bodyPost_ret (v := vV (1, 4, IntKind.u64.wrap (-n))) (by simp [results, Try.results22, go_sem, c0, c1, c2, vV]) rfl ⟨by rw [HF.out], ((HG2.out.setCell (Nat.le_succ _) _).setCell (Nat.le_succ _) _).setCell (Nat.le_succ _) _⟩
        by_cases e2 : m = 2
        · subst e2
          have HF : Hid (R = (2, 4, n)) := HR.out.trans (by simp [valN, HE.out])
          have hmw : IntKind.u64.wrap n = n := by rw [IntKind.wrap_u64]; omega
          go_wp2_with fail
          refine (uns17_any n 4 _).mono ?_
          rintro r w2 ⟨rfl, hg⟩
          have HG2 := Lib.hid (HG.out.trans hg)
          have hrow := hg.heap HROW.out
          have f0 := row_frozen hrow 0
          have f1 := row_frozen hrow 1
          have f2 := row_frozen hrow 2
          have c0 := row_cell hrow 0 _ rfl
          have c1 := row_cell hrow 1 _ rfl
          have c2 := row_cell hrow 2 _ rfl
          clear hrow
          clear hg
          go_wp2
          refine bodyPost_ret (v := vV (2, 4, n)) (by simp [results, Try.results22, go_sem, c0, c1, c2, vV]) rfl ⟨by rw [HF.out], ((HG2.out.setCell (Nat.le_succ _) _).setCell (Nat.le_succ _) _).setCell (Nat.le_succ _) _⟩
        by_cases e3 : m = 3
        · subst e3
          have HF : Hid (R = (26, 1, n % 2)) := HR.out.trans (by simp [valN, HE.out])
          have em : n.tmod 2 = n % 2 := Int.tmod_eq_emod_of_nonneg n0
          have hm0 : 0 ≤ n % 2 := by omega
          have hm1 : n % 2 < 2 := by omega
          have hmw : IntKind.u64.wrap (n % 2) = n % 2 := by rw [IntKind.wrap_u64]; omega
          have HG2 := Lib.hid HG.out
          have hrow := HROW.out
          have f0 := row_frozen hrow 0
          have f1 := row_frozen hrow 1
          have f2 := row_frozen hrow 2
          have c0 := row_cell hrow 0 _ rfl
          have c1 := row_cell hrow 1 _ rfl
          have c2 := row_cell hrow 2 _ rfl
          clear hrow
          go_wp2
          refine bodyPost_ret (v := vV (26, 1, n % 2)) (by simp [results, Try.results22, go_sem, c0, c1, c2, vV]) rfl ⟨by rw [HF.out], ((HG2.out.setCell (Nat.le_succ _) _).setCell (Nat.le_succ _) _).setCell (Nat.le_succ _) _⟩
        have HF : Hid (R = farF n a) := HR.out.trans (by simp [valN, e0, e1, e2, e3])
        go_wp2_with fail
        have b0 : (m == 0) = false := by simpa using e0
        have b1 : (m == 1) = false := by simpa using e1
        have b2 : (m == 2) = false := by simpa using e2
        have b3 : (m == 3) = false := by simpa using e3
        simp only [b0, b1, b2, b3]
        clear b0 b1 b2 b3 e0 e1 e2 e3 m0 m1
        clear HR
        obtain ⟨k5, hk5⟩ : ∃ k : Nat, n % 5 = k := ⟨(n % 5).toNat, by omega⟩
        obtain ⟨k4, hk4⟩ : ∃ k : Nat, n / 5 % 4 = k := ⟨(n / 5 % 4).toNat, by omega⟩
        have l5 : k5 < 5 := by omega
        have l4 : k4 < 4 := by omega
        obtain ⟨am, ham⟩ : ∃ m : Int, max a 1 = m := ⟨_, rfl⟩
        have am1 : 1 ≤ am := by omega
        have am2 : am ≤ 4611686018427387904 := by omega
        obtain ⟨q, hq⟩ : ∃ q : Int, n / 5 = q := ⟨_, rfl⟩
        rw [hq] at hk4
        have q0 : 0 ≤ q := by omega
        have q1 : q ≤ 1099511627776 := by omega
        obtain ⟨rr, hrr⟩ : ∃ r : Int, n % am = r := ⟨_, rfl⟩
        have ham0 : ¬ am = 0 := by omega
        replace HF : Hid (R = (kindF k5, shlF k4, rr)) := HF.out.trans (by unfold farF; rw [hk5, hq, hk4, ham, hrr])
        have t5 : n.tmod 5 = (k5 : Int) := by rw [Int.tmod_eq_emod_of_nonneg n0]; exact hk5
        have d5 : n.tdiv 5 = q := by rw [Int.tdiv_eq_ediv_of_nonneg n0]; exact hq
        have t4 : q.tmod 4 = (k4 : Int) := by rw [Int.tmod_eq_emod_of_nonneg q0]; exact hk4
        have tm : n.tmod am = rr := by rw [Int.tmod_eq_emod_of_nonneg n0]; exact hrr
        have r0 : 0 ≤ rr := by rw [← hrr]; exact Int.emod_nonneg _ (by omega)
        have r1 : rr < am := by rw [← hrr]; exact Int.emod_lt_of_pos _ (by omega)
        have HAM := Lib.hid ham
        have qw : IntKind.i64.wrap q = q := by rw [IntKind.wrap_i64]; omega
        have rw1 : IntKind.u64.wrap rr = rr := by rw [IntKind.wrap_u64]; omega
        have i5 : (k5 : Int) < 5 := by omega
        clear hk5 hk4 ham hq hrr
        refine wp_region_last Grew [[], [], [1], [0, 2], [3], [], [5], [6], [7], [], [], [10], [9, 11], [12], [4, 8, 13], [14]] [[(50, 1), (51, 2), (53, 4), (54, 5), (55, 6), (56, 7), (57, 8), (58, 9), (59, 10), (60, 11), (61, 12), (62, 13), (63, 14)], [(49, 0), (52, 3), (53, 4), (54, 5), (55, 6), (56, 7), (57, 8), (58, 9), (59, 10), (60, 11), (61, 12), (62, 13), (63, 14)], [(49, 0), (50, 1), (53, 4), (54, 5), (55, 6), (56, 7), (57, 8), (58, 9), (59, 10), (60, 11), (61, 12), (62, 13), (63, 14)], [(49, 0), (50, 1), (51, 2), (54, 5), (55, 6), (56, 7), (57, 8), (58, 9), (59, 10), (60, 11), (61, 12), (62, 13), (63, 14)], [(49, 0), (50, 1), (51, 2), (52, 3), (54, 5), (55, 6), (56, 7), (57, 8), (58, 9), (59, 10), (60, 11), (61, 12), (62, 13)], [(49, 0), (50, 1), (51, 2), (52, 3), (53, 4), (56, 7), (57, 8), (58, 9), (59, 10), (60, 11), (61, 12), (62, 13), (63, 14)], [(49, 0), (50, 1), (51, 2), (52, 3), (53, 4), (54, 5), (57, 8), (58, 9), (59, 10), (60, 11), (61, 12), (62, 13), (63, 14)], [(49, 0), (50, 1), (51, 2), (52, 3), (53, 4), (54, 5), (55, 6), (58, 9), (59, 10), (60, 11), (61, 12), (62, 13), (63, 14)], [(49, 0), (50, 1), (51, 2), (52, 3), (53, 4), (54, 5), (55, 6), (56, 7), (58, 9), (59, 10), (60, 11), (61, 12), (62, 13)], [(49, 0), (50, 1), (51, 2), (52, 3), (53, 4), (54, 5), (55, 6), (56, 7), (57, 8), (59, 10), (60, 11), (62, 13), (63, 14)], [(49, 0), (50, 1), (51, 2), (52, 3), (53, 4), (54, 5), (55, 6), (56, 7), (57, 8), (58, 9), (61, 12), (62, 13), (63, 14)], [(49, 0), (50, 1), (51, 2), (52, 3), (53, 4), (54, 5), (55, 6), (56, 7), (57, 8), (58, 9), (59, 10), (62, 13), (63, 14)], [(49, 0), (50, 1), (51, 2), (52, 3), (53, 4), (54, 5), (55, 6), (56, 7), (57, 8), (58, 9), (59, 10), (60, 11), (63, 14)], [(49, 0), (50, 1), (51, 2), (52, 3), (53, 4), (54, 5), (55, 6), (56, 7), (57, 8), (58, 9), (59, 10), (60, 11), (61, 12)], [(49, 0), (50, 1), (51, 2), (52, 3), (53, 4), (54, 5), (55, 6), (56, 7), (57, 8), (58, 9), (59, 10), (60, 11), (61, 12), (62, 13)], [(49, 0), (50, 1), (51, 2), (52, 3), (53, 4), (54, 5), (55, 6), (56, 7), (57, 8), (58, 9), (59, 10), (60, 11), (61, 12), (62, 13), (63, 14)]]
          [fun v w => ∃ g, v = .slice (some ⟨g, 0, none⟩) 5 5 ∧ w.heap[g]? = some (.cells tabC 3), Is (.int .i64 n), Is (.int .i64 (k5 : Int)), fun v w => ∃ g, v = .pointer (some ⟨g, k5, none⟩) ∧ w.heap[g]? = some (.cells tabC 3), Is (.int .i64 (kindF k5)), Is (.int .i64 n), Is (.int .i64 q), Is (.int .i64 (k4 : Int)), Is (.int .i64 (shlF k4)), Is (.int .i64 n), Is (.int .i64 a), Is (.int .i64 am), Is (.int .i64 rr), Is (.int .u64 rr), Is (.agg #[.int .i64 (kindF k5), .int .i64 (shlF k4), .int .u64 rr])]
          (by kernel_rfl) Grew.trans Grew.refl (Grew.refl _).drew (by kernel_rfl) ⟨tab_st, is_st, is_st, tabp_st, is_st, is_st, is_st, is_st, is_st, is_st, is_st, is_st, is_st, is_st, is_st, trivial⟩ rfl ⟨?_, ?_, ?_, ?_, ?_, ?_, ?_, ?_, ?_, ?_, ?_, ?_, ?_, ?_, ?_, trivial⟩ ?_ rfl
        · intro y w2 hG hD K hK
          simp only [fillL, Act.put, List.setIfInBounds_toArray, List.set_cons_zero, List.set_cons_succ, List.getD_cons_zero, List.getD_cons_succ, Is] at hK ⊢
          refine ite_yes (by rfl) ?_
          go_simp
          exact hK _ _ _ rfl ((Grew.refl _).alloc _) ⟨_, rfl, heap_alloc_new _ _⟩
        · intro y w2 hG hD K hK
          simp only [fillL, Act.put, List.setIfInBounds_toArray, List.set_cons_zero, List.set_cons_succ, List.getD_cons_zero, List.getD_cons_succ, Is] at hK ⊢
          refine ite_yes (by rfl) ?_
          go_simp
          exact hK _ _ _ rfl (Grew.refl _) rfl
        · intro y w2 hG hD K hK
          simp only [depsH, List.getD_cons_zero, List.getD_cons_succ, Is, and_true] at hD
          have h1 := hD
          clear hD
          simp only [fillL, Act.put, List.setIfInBounds_toArray, List.set_cons_zero, List.set_cons_succ, List.getD_cons_zero, List.getD_cons_succ, Is] at hK ⊢
          rw [h1] at hK ⊢
          clear h1
          refine ite_yes (by rfl) ?_
          go_simp
          exact hK _ _ _ rfl (Grew.refl _) rfl
        · intro y w2 hG hD K hK
          simp only [depsH, List.getD_cons_zero, List.getD_cons_succ, Is, and_true] at hD
          have h0 := hD.1
          have h2 := hD.2
          clear hD
          simp only [fillL, Act.put, List.setIfInBounds_toArray, List.set_cons_zero, List.set_cons_succ, List.getD_cons_zero, List.getD_cons_succ, Is] at hK ⊢
          rw [h2] at hK ⊢
          clear h2
          refine ite_yes (by rfl) ?_
          refine Exists.elim h0 fun g h => ?_
          have hs := h.1
          have hh := h.2
          clear h h0
          rw [hs] at hK ⊢
          go_simp
          exact hK _ _ _ rfl (Grew.refl _) ⟨g, rfl, hh⟩
        · intro y w2 hG hD K hK
          simp only [depsH, List.getD_cons_zero, List.getD_cons_succ, Is, and_true] at hD
          have h3 := hD
          clear hD
          simp only [fillL, Act.put, List.setIfInBounds_toArray, List.set_cons_zero, List.set_cons_succ, List.getD_cons_zero, List.getD_cons_succ, Is] at hK ⊢
          refine ite_yes (by rfl) ?_
          refine Exists.elim h3 fun g h => ?_
          have hs := h.1
          have hc := row_cell h.2 k5 _ (tab_cell k5 l5)
          clear h h3
          rw [hs] at hK ⊢
          go_simp
          exact hK _ _ _ rfl (Grew.refl _) rfl
        · intro y w2 hG hD K hK
          simp only [fillL, Act.put, List.setIfInBounds_toArray, List.set_cons_zero, List.set_cons_succ, List.getD_cons_zero, List.getD_cons_succ, Is] at hK ⊢
          refine ite_yes (by rfl) ?_
          go_simp
          exact hK _ _ _ rfl (Grew.refl _) rfl
        · intro y w2 hG hD K hK
          simp only [depsH, List.getD_cons_zero, List.getD_cons_succ, Is, and_true] at hD
          have h5 := hD
          clear hD
          simp only [fillL, Act.put, List.setIfInBounds_toArray, List.set_cons_zero, List.set_cons_succ, List.getD_cons_zero, List.getD_cons_succ, Is] at hK ⊢
          rw [h5] at hK ⊢
          clear h5
          refine ite_yes (by rfl) ?_
          go_simp
          exact hK _ _ _ rfl (Grew.refl _) rfl
        · intro y w2 hG hD K hK
          simp only [depsH, List.getD_cons_zero, List.getD_cons_succ, Is, and_true] at hD
          have h6 := hD
          clear hD
          simp only [fillL, Act.put, List.setIfInBounds_toArray, List.set_cons_zero, List.set_cons_succ, List.getD_cons_zero, List.getD_cons_succ, Is] at hK ⊢
          rw [h6] at hK ⊢
          clear h6
          refine ite_yes (by rfl) ?_
          go_simp
          exact hK _ _ _ rfl (Grew.refl _) rfl
        · intro y w2 hG hD K hK
          simp only [depsH, List.getD_cons_zero, List.getD_cons_succ, Is, and_true] at hD
          have h7 := hD
          clear hD
          simp only [fillL, Act.put, List.setIfInBounds_toArray, List.set_cons_zero, List.set_cons_succ, List.getD_cons_zero, List.getD_cons_succ, Is] at hK ⊢
          rw [h7] at hK ⊢
          clear h7
          refine ite_yes (by rfl) ?_
          go_simp
          exact hK _ _ _ rfl (Grew.refl _) (congrArg (Value.int _) (shl_small k4 l4))
        · intro y w2 hG hD K hK
          simp only [fillL, Act.put, List.setIfInBounds_toArray, List.set_cons_zero, List.set_cons_succ, List.getD_cons_zero, List.getD_cons_succ, Is] at hK ⊢
          refine ite_yes (by rfl) ?_
          go_simp
          exact hK _ _ _ rfl (Grew.refl _) rfl
        · intro y w2 hG hD K hK
          simp only [fillL, Act.put, List.setIfInBounds_toArray, List.set_cons_zero, List.set_cons_succ, List.getD_cons_zero, List.getD_cons_succ, Is] at hK ⊢
          refine ite_yes (by rfl) ?_
          go_simp
          exact hK _ _ _ rfl (Grew.refl _) rfl
        · intro y w2 hG hD K hK
          simp only [depsH, List.getD_cons_zero, List.getD_cons_succ, Is, and_true] at hD
          have h10 := hD
          clear hD
          simp only [fillL, Act.put, List.setIfInBounds_toArray, List.set_cons_zero, List.set_cons_succ, List.getD_cons_zero, List.getD_cons_succ, Is] at hK ⊢
          rw [h10] at hK ⊢
          clear h10
          refine ite_yes (by rfl) ?_
          go_simp
          exact hK _ _ _ rfl (Grew.refl _) (congrArg (Value.int _) HAM.out)
        · intro y w2 hG hD K hK
          simp only [depsH, List.getD_cons_zero, List.getD_cons_succ, Is, and_true] at hD
          have h9 := hD.1
          have h11 := hD.2
          clear hD
          simp only [fillL, Act.put, List.setIfInBounds_toArray, List.set_cons_zero, List.set_cons_succ, List.getD_cons_zero, List.getD_cons_succ, Is] at hK ⊢
          rw [h9, h11] at hK ⊢
          clear h9 h11
          refine ite_yes (by rfl) ?_
          go_simp
          exact hK _ _ _ rfl (Grew.refl _) rfl
        · intro y w2 hG hD K hK
          simp only [depsH, List.getD_cons_zero, List.getD_cons_succ, Is, and_true] at hD
          have h12 := hD
          clear hD
          simp only [fillL, Act.put, List.setIfInBounds_toArray, List.set_cons_zero, List.set_cons_succ, List.getD_cons_zero, List.getD_cons_succ, Is] at hK ⊢
          rw [h12] at hK ⊢
          clear h12
          refine ite_yes (by rfl) ?_
          go_simp
          exact hK _ _ _ rfl (Grew.refl _) rfl
        · intro y w2 hG hD K hK
          simp only [depsH, List.getD_cons_zero, List.getD_cons_succ, Is, and_true] at hD
          have h4 := hD.1
          have h8 := hD.2.1
          have h13 := hD.2.2
          clear hD
          simp only [fillL, Act.put, List.setIfInBounds_toArray, List.set_cons_zero, List.set_cons_succ, List.getD_cons_zero, List.getD_cons_succ, Is] at hK ⊢
          rw [h4, h8, h13] at hK ⊢
          clear h4 h8 h13
          refine ite_yes (by rfl) ?_
          go_simp
          exact hK _ _ _ rfl (Grew.refl _) rfl
        · intro y w2 hG hF K hK
          simp only [factsH, Is, and_true, Nat.reduceAdd] at hF
          have h0 := hF.1
          have h1 := hF.2.1
          have h2 := hF.2.2.1
          have h3 := hF.2.2.2.1
          have h4 := hF.2.2.2.2.1
          have h5 := hF.2.2.2.2.2.1
          have h6 := hF.2.2.2.2.2.2.1
          have h7 := hF.2.2.2.2.2.2.2.1
          have h8 := hF.2.2.2.2.2.2.2.2.1
          have h9 := hF.2.2.2.2.2.2.2.2.2.1
          have h10 := hF.2.2.2.2.2.2.2.2.2.2.1
          have h11 := hF.2.2.2.2.2.2.2.2.2.2.2.1
          have h12 := hF.2.2.2.2.2.2.2.2.2.2.2.2.1
          have h13 := hF.2.2.2.2.2.2.2.2.2.2.2.2.2.1
          have h14 := hF.2.2.2.2.2.2.2.2.2.2.2.2.2.2
          clear hF
          simp only [lastOf]
          simp only [fillL, Act.put, List.setIfInBounds_toArray, List.set_cons_zero, List.set_cons_succ, List.getD_cons_zero, List.getD_cons_succ, Is] at hK ⊢
          rw [h1, h2, h4, h5, h6, h7, h8, h9, h10, h11, h12, h13, h14]
          clear h1 h2 h4 h5 h6 h7 h8 h9 h10 h11 h12 h13 h14
          refine ite_yes (by rfl) ?_
          have HG2 := Lib.hid (HG.out.trans hG)
          have hrow := hG.heap HROW.out
          have f0 := row_frozen hrow 0
          have f1 := row_frozen hrow 1
          have f2 := row_frozen hrow 2
          have c0 := row_cell hrow 0 _ rfl
          have c1 := row_cell hrow 1 _ rfl
          have c2 := row_cell hrow 2 _ rfl
          clear hrow hG
          go_simp
          refine hK _ _ ?_
          go_wp2
          refine bodyPost_ret (v := vV (kindF k5, shlF k4, rr)) (by simp [results, Try.results22, go_sem, c0, c1, c2, vV]) rfl ⟨by rw [HF.out], ((HG2.out.setCell (Nat.le_succ _) _).setCell (Nat.le_succ _) _).setCell (Nat.le_succ _) _⟩
    · subst k2
      clear HK
      by_cases hn : n < 128
      · go_wp2
        go_roundw
        case rel => exact ⟨1, rfl, trivial, by show _ ∨ _; omega⟩
        case measure => simp [intOf]
      · have HE : Hid (widF n = 2) := by show _ = _; unfold widF; repeat' split; all_goals omega
        go_wp2_with fail
        refine (bringL_any x0 6 _ (by omega) (by omega)).mono ?_
        rintro r w1 ⟨rfl, rfl⟩
        have m0 : 0 ≤ x0 % 6 := by omega
        have m1 : x0 % 6 < 6 := by omega
        generalize x0 % 6 = m at *
        by_cases e0 : m = 0
        · subst e0
          have HF : Hid (R = (1, 2, n)) := HR.out.trans (by simp [valN, HE.out])
          have hmw : IntKind.u64.wrap n = n := by rw [IntKind.wrap_u64]; omega
          go_wp2_with fail
          refine (num17_any n 2 _).mono ?_
          rintro r w2 ⟨rfl, hg⟩
          have HG2 := Lib.hid (HG.out.trans hg)
          have hrow := hg.heap HROW.out
          have f0 := row_frozen hrow 0
          have f1 := row_frozen hrow 1
          have f2 := row_frozen hrow 2
          have c0 := row_cell hrow 0 _ rfl
          have c1 := row_cell hrow 1 _ rfl
          have c2 := row_cell hrow 2 _ rfl
          clear hrow
          clear hg
          go_wp2
          refine bodyPost_ret (v := vV (1, 2, n)) (by simp [results, Try.results22, go_sem, c0, c1, c2, vV]) rfl ⟨by rw [HF.out], ((HG2.out.setCell (Nat.le_succ _) _).setCell (Nat.le_succ _) _).setCell (Nat.le_succ _) _⟩
        by_cases e1 : m = 1
        · subst e1
          have HF : Hid (R = (1, 2, IntKind.u64.wrap (-n))) := HR.out.trans (by simp [valN, HE.out])
          go_wp2_with fail
          refine (num17_any (-n) 2 _).mono ?_
          rintro r w2 ⟨rfl, hg⟩
          have HG2 := Lib.hid (HG.out.trans hg)
          have hrow := hg.heap HROW.out
          have f0 := row_frozen hrow 0
          have f1 := row_frozen hrow 1
          have f2 := row_frozen hrow 2
          have c0 := row_cell hrow 0 _ rfl
          have c1 := row_cell hrow 1 _ rfl
          have c2 := row_cell hrow 2 _ rfl
          clear hrow
          clear hg
          go_wp2
          refine bodyPost_ret (v := vV (1, 2, IntKind.u64.wrap (-n))) (by simp [results, Try.results22, go_sem, c0, c1, c2, vV]) rfl ⟨by rw [HF.out], ((HG2.out.setCell (Nat.le_succ _) _).setCell (Nat.le_succ _) _).setCell (Nat.le_succ _) _⟩
        by_cases e2 : m = 2
        · subst e2
          have HF : Hid (R = (2, 2, n)) := HR.out.trans (by simp [valN, HE.out])
          have hmw : IntKind.u64.wrap n = n := by rw [IntKind.wrap_u64]; omega
          go_wp2_with fail
          refine (uns17_any n 2 _).mono ?_
          rintro r w2 ⟨rfl, hg⟩
          have HG2 := Lib.hid (HG.out.trans hg)
          have hrow := hg.heap HROW.out
          have f0 := row_frozen hrow 0
          have f1 := row_frozen hrow 1
          have f2 := row_frozen hrow 2
          have c0 := row_cell hrow 0 _ rfl
          have c1 := row_cell hrow 1 _ rfl
          have c2 := row_cell hrow 2 _ rfl
          clear hrow
          clear hg
          go_wp2
          refine bodyPost_ret (v := vV (2, 2, n)) (by simp [results, Try.results22, go_sem, c0, c1, c2, vV]) rfl ⟨by rw [HF.out], ((HG2.out.setCell (Nat.le_succ _) _).setCell (Nat.le_succ _) _).setCell (Nat.le_succ _) _⟩
        by_cases e3 : m = 3
        · subst e3
          have HF : Hid (R = (26, 1, n % 2)) := HR.out.trans (by simp [valN, HE.out])
          have em : n.tmod 2 = n % 2 := Int.tmod_eq_emod_of_nonneg n0
          have hm0 : 0 ≤ n % 2 := by omega
          have hm1 : n % 2 < 2 := by omega
          have hmw : IntKind.u64.wrap (n % 2) = n % 2 := by rw [IntKind.wrap_u64]; omega
          have HG2 := Lib.hid HG.out
          have hrow := HROW.out
          have f0 := row_frozen hrow 0
          have f1 := row_frozen hrow 1
          have f2 := row_frozen hrow 2
          have c0 := row_cell hrow 0 _ rfl
          have c1 := row_cell hrow 1 _ rfl
          have c2 := row_cell hrow 2 _ rfl
          clear hrow
          go_wp2
          refine bodyPost_ret (v := vV (26, 1, n % 2)) (by simp [results, Try.results22, go_sem, c0, c1, c2, vV]) rfl ⟨by rw [HF.out], ((HG2.out.setCell (Nat.le_succ _) _).setCell (Nat.le_succ _) _).setCell (Nat.le_succ _) _⟩
        have HF : Hid (R = farF n a) := HR.out.trans (by simp [valN, e0, e1, e2, e3])
        go_wp2_with fail
        have b0 : (m == 0) = false := by simpa using e0
        have b1 : (m == 1) = false := by simpa using e1
        have b2 : (m == 2) = false := by simpa using e2
        have b3 : (m == 3) = false := by simpa using e3
        simp only [b0, b1, b2, b3]
        clear b0 b1 b2 b3 e0 e1 e2 e3 m0 m1
        clear HR
        obtain ⟨k5, hk5⟩ : ∃ k : Nat, n % 5 = k := ⟨(n % 5).toNat, by omega⟩
        obtain ⟨k4, hk4⟩ : ∃ k : Nat, n / 5 % 4 = k := ⟨(n / 5 % 4).toNat, by omega⟩
        have l5 : k5 < 5 := by omega
        have l4 : k4 < 4 := by omega
        obtain ⟨am, ham⟩ : ∃ m : Int, max a 1 = m := ⟨_, rfl⟩
        have am1 : 1 ≤ am := by omega
        have am2 : am ≤ 4611686018427387904 := by omega
        obtain ⟨q, hq⟩ : ∃ q : Int, n / 5 = q := ⟨_, rfl⟩
        rw [hq] at hk4
        have q0 : 0 ≤ q := by omega
        have q1 : q ≤ 1099511627776 := by omega
        obtain ⟨rr, hrr⟩ : ∃ r : Int, n % am = r := ⟨_, rfl⟩
        have ham0 : ¬ am = 0 := by omega
        replace HF : Hid (R = (kindF k5, shlF k4, rr)) := HF.out.trans (by unfold farF; rw [hk5, hq, hk4, ham, hrr])
        have t5 : n.tmod 5 = (k5 : Int) := by rw [Int.tmod_eq_emod_of_nonneg n0]; exact hk5
        have d5 : n.tdiv 5 = q := by rw [Int.tdiv_eq_ediv_of_nonneg n0]; exact hq
        have t4 : q.tmod 4 = (k4 : Int) := by rw [Int.tmod_eq_emod_of_nonneg q0]; exact hk4
        have tm : n.tmod am = rr := by rw [Int.tmod_eq_emod_of_nonneg n0]; exact hrr
        have r0 : 0 ≤ rr := by rw [← hrr]; exact Int.emod_nonneg _ (by omega)
        have r1 : rr < am := by rw [← hrr]; exact Int.emod_lt_of_pos _ (by omega)
        have HAM := Lib.hid ham
        have qw : IntKind.i64.wrap q = q := by rw [IntKind.wrap_i64]; omega
        have rw1 : IntKind.u64.wrap rr = rr := by rw [IntKind.wrap_u64]; omega
        have i5 : (k5 : Int) < 5 := by omega
        clear hk5 hk4 ham hq hrr
        refine wp_region_last Grew [[], [], [1], [0, 2], [3], [], [5], [6], [7], [], [], [10], [9, 11], [12], [4, 8, 13], [14]] [[(50, 1), (51, 2), (53, 4), (54, 5), (55, 6), (56, 7), (57, 8), (58, 9), (59, 10), (60, 11), (61, 12), (62, 13), (63, 14)], [(49, 0), (52, 3), (53, 4), (54, 5), (55, 6), (56, 7), (57, 8), (58, 9), (59, 10), (60, 11), (61, 12), (62, 13), (63, 14)], [(49, 0), (50, 1), (53, 4), (54, 5), (55, 6), (56, 7), (57, 8), (58, 9), (59, 10), (60, 11), (61, 12), (62, 13), (63, 14)], [(49, 0), (50, 1), (51, 2), (54, 5), (55, 6), (56, 7), (57, 8), (58, 9), (59, 10), (60, 11), (61, 12), (62, 13), (63, 14)], [(49, 0), (50, 1), (51, 2), (52, 3), (54, 5), (55, 6), (56, 7), (57, 8), (58, 9), (59, 10), (60, 11), (61, 12), (62, 13)], [(49, 0), (50, 1), (51, 2), (52, 3), (53, 4), (56, 7), (57, 8), (58, 9), (59, 10), (60, 11), (61, 12), (62, 13), (63, 14)], [(49, 0), (50, 1), (51, 2), (52, 3), (53, 4), (54, 5), (57, 8), (58, 9), (59, 10), (60, 11), (61, 12), (62, 13), (63, 14)], [(49, 0), (50, 1), (51, 2), (52, 3), (53, 4), (54, 5), (55, 6), (58, 9), (59, 10), (60, 11), (61, 12), (62, 13), (63, 14)], [(49, 0), (50, 1), (51, 2), (52, 3), (53, 4), (54, 5), (55, 6), (56, 7), (58, 9), (59, 10), (60, 11), (61, 12), (62, 13)], [(49, 0), (50, 1), (51, 2), (52, 3), (53, 4), (54, 5), (55, 6), (56, 7), (57, 8), (59, 10), (60, 11), (62, 13), (63, 14)], [(49, 0), (50, 1), (51, 2), (52, 3), (53, 4), (54, 5), (55, 6), (56, 7), (57, 8), (58, 9), (61, 12), (62, 13), (63, 14)], [(49, 0), (50, 1), (51, 2), (52, 3), (53, 4), (54, 5), (55, 6), (56, 7), (57, 8), (58, 9), (59, 10), (62, 13), (63, 14)], [(49, 0), (50, 1), (51, 2), (52, 3), (53, 4), (54, 5), (55, 6), (56, 7), (57, 8), (58, 9), (59, 10), (60, 11), (63, 14)], [(49, 0), (50, 1), (51, 2), (52, 3), (53, 4), (54, 5), (55, 6), (56, 7), (57, 8), (58, 9), (59, 10), (60, 11), (61, 12)], [(49, 0), (50, 1), (51, 2), (52, 3), (53, 4), (54, 5), (55, 6), (56, 7), (57, 8), (58, 9), (59, 10), (60, 11), (61, 12), (62, 13)], [(49, 0), (50, 1), (51, 2), (52, 3), (53, 4), (54, 5), (55, 6), (56, 7), (57, 8), (58, 9), (59, 10), (60, 11), (61, 12), (62, 13), (63, 14)]]
          [fun v w => ∃ g, v = .slice (some ⟨g, 0, none⟩) 5 5 ∧ w.heap[g]? = some (.cells tabC 3), Is (.int .i64 n), Is (.int .i64 (k5 : Int)), fun v w => ∃ g, v = .pointer (some ⟨g, k5, none⟩) ∧ w.heap[g]? = some (.cells tabC 3), Is (.int .i64 (kindF k5)), Is (.int .i64 n), Is (.int .i64 q), Is (.int .i64 (k4 : Int)), Is (.int .i64 (shlF k4)), Is (.int .i64 n), Is (.int .i64 a), Is (.int .i64 am), Is (.int .i64 rr), Is (.int .u64 rr), Is (.agg #[.int .i64 (kindF k5), .int .i64 (shlF k4), .int .u64 rr])]
          (by kernel_rfl) Grew.trans Grew.refl (Grew.refl _).drew (by kernel_rfl) ⟨tab_st, is_st, is_st, tabp_st, is_st, is_st, is_st, is_st, is_st, is_st, is_st, is_st, is_st, is_st, is_st, trivial⟩ rfl ⟨?_, ?_, ?_, ?_, ?_, ?_, ?_, ?_, ?_, ?_, ?_, ?_, ?_, ?_, ?_, trivial⟩ ?_ rfl
        · intro y w2 hG hD K hK
          simp only [fillL, Act.put, List.setIfInBounds_toArray, List.set_cons_zero, List.set_cons_succ, List.getD_cons_zero, List.getD_cons_succ, Is] at hK ⊢
          refine ite_yes (by rfl) ?_
          go_simp
          exact hK _ _ _ rfl ((Grew.refl _).alloc _) ⟨_, rfl, heap_alloc_new _ _⟩
        · intro y w2 hG hD K hK
          simp only [fillL, Act.put, List.setIfInBounds_toArray, List.set_cons_zero, List.set_cons_succ, List.getD_cons_zero, List.getD_cons_succ, Is] at hK ⊢
          refine ite_yes (by rfl) ?_
          go_simp
          exact hK _ _ _ rfl (Grew.refl _) rfl
        · intro y w2 hG hD K hK
          simp only [depsH, List.getD_cons_zero, List.getD_cons_succ, Is, and_true] at hD
          have h1 := hD
          clear hD
          simp only [fillL, Act.put, List.setIfInBounds_toArray, List.set_cons_zero, List.set_cons_succ, List.getD_cons_zero, List.getD_cons_succ, Is] at hK ⊢
          rw [h1] at hK ⊢
          clear h1
          refine ite_yes (by rfl) ?_
          go_simp
          exact hK _ _ _ rfl (Grew.refl _) rfl
        · intro y w2 hG hD K hK
          simp only [depsH, List.getD_cons_zero, List.getD_cons_succ, Is, and_true] at hD
          have h0 := hD.1
          have h2 := hD.2
          clear hD
          simp only [fillL, Act.put, List.setIfInBounds_toArray, List.set_cons_zero, List.set_cons_succ, List.getD_cons_zero, List.getD_cons_succ, Is] at hK ⊢
          rw [h2] at hK ⊢
          clear h2
          refine ite_yes (by rfl) ?_
          refine Exists.elim h0 fun g h => ?_
          have hs := h.1
          have hh := h.2
          clear h h0
          rw [hs] at hK ⊢
          go_simp
          exact hK _ _ _ rfl (Grew.refl _) ⟨g, rfl, hh⟩
        · intro y w2 hG hD K hK
          simp only [depsH, List.getD_cons_zero, List.getD_cons_succ, Is, and_true] at hD
          have h3 := hD
          clear hD
          simp only [fillL, Act.put, List.setIfInBounds_toArray, List.set_cons_zero, List.set_cons_succ, List.getD_cons_zero, List.getD_cons_succ, Is] at hK ⊢
          refine ite_yes (by rfl) ?_
          refine Exists.elim h3 fun g h => ?_
          have hs := h.1
          have hc := row_cell h.2 k5 _ (tab_cell k5 l5)
          clear h h3
          rw [hs] at hK ⊢
          go_simp
          exact hK _ _ _ rfl (Grew.refl _) rfl
        · intro y w2 hG hD K hK
          simp only [fillL, Act.put, List.setIfInBounds_toArray, List.set_cons_zero, List.set_cons_succ, List.getD_cons_zero, List.getD_cons_succ, Is] at hK ⊢
          refine ite_yes (by rfl) ?_
          go_simp
          exact hK _ _ _ rfl (Grew.refl _) rfl
        · intro y w2 hG hD K hK
          simp only [depsH, List.getD_cons_zero, List.getD_cons_succ, Is, and_true] at hD
          have h5 := hD
          clear hD
          simp only [fillL, Act.put, List.setIfInBounds_toArray, List.set_cons_zero, List.set_cons_succ, List.getD_cons_zero, List.getD_cons_succ, Is] at hK ⊢
          rw [h5] at hK ⊢
          clear h5
          refine ite_yes (by rfl) ?_
          go_simp
          exact hK _ _ _ rfl (Grew.refl _) rfl
        · intro y w2 hG hD K hK
          simp only [depsH, List.getD_cons_zero, List.getD_cons_succ, Is, and_true] at hD
          have h6 := hD
          clear hD
          simp only [fillL, Act.put, List.setIfInBounds_toArray, List.set_cons_zero, List.set_cons_succ, List.getD_cons_zero, List.getD_cons_succ, Is] at hK ⊢
          rw [h6] at hK ⊢
          clear h6
          refine ite_yes (by rfl) ?_
          go_simp
          exact hK _ _ _ rfl (Grew.refl _) rfl
        · intro y w2 hG hD K hK
          simp only [depsH, List.getD_cons_zero, List.getD_cons_succ, Is, and_true] at hD
          have h7 := hD
          clear hD
          simp only [fillL, Act.put, List.setIfInBounds_toArray, List.set_cons_zero, List.set_cons_succ, List.getD_cons_zero, List.getD_cons_succ, Is] at hK ⊢
          rw [h7] at hK ⊢
          clear h7
          refine ite_yes (by rfl) ?_
          go_simp
          exact hK _ _ _ rfl (Grew.refl _) (congrArg (Value.int _) (shl_small k4 l4))
        · intro y w2 hG hD K hK
          simp only [fillL, Act.put, List.setIfInBounds_toArray, List.set_cons_zero, List.set_cons_succ, List.getD_cons_zero, List.getD_cons_succ, Is] at hK ⊢
          refine ite_yes (by rfl) ?_
          go_simp
          exact hK _ _ _ rfl (Grew.refl _) rfl
        · intro y w2 hG hD K hK
          simp only [fillL, Act.put, List.setIfInBounds_toArray, List.set_cons_zero, List.set_cons_succ, List.getD_cons_zero, List.getD_cons_succ, Is] at hK ⊢
          refine ite_yes (by rfl) ?_
          go_simp
          exact hK _ _ _ rfl (Grew.refl _) rfl
        · intro y w2 hG hD K hK
          simp only [depsH, List.getD_cons_zero, List.getD_cons_succ, Is, and_true] at hD
          have h10 := hD
          clear hD
          simp only [fillL, Act.put, List.setIfInBounds_toArray, List.set_cons_zero, List.set_cons_succ, List.getD_cons_zero, List.getD_cons_succ, Is] at hK ⊢
          rw [h10] at hK ⊢
          clear h10
          refine ite_yes (by rfl) ?_
          go_simp
          exact hK _ _ _ rfl (Grew.refl _) (congrArg (Value.int _) HAM.out)
        · intro y w2 hG hD K hK
          simp only [depsH, List.getD_cons_zero, List.getD_cons_succ, Is, and_true] at hD
          have h9 := hD.1
          have h11 := hD.2
          clear hD
          simp only [fillL, Act.put, List.setIfInBounds_toArray, List.set_cons_zero, List.set_cons_succ, List.getD_cons_zero, List.getD_cons_succ, Is] at hK ⊢
          rw [h9, h11] at hK ⊢
          clear h9 h11
          refine ite_yes (by rfl) ?_
          go_simp
          exact hK _ _ _ rfl (Grew.refl _) rfl
        · intro y w2 hG hD K hK
          simp only [depsH, List.getD_cons_zero, List.getD_cons_succ, Is, and_true] at hD
          have h12 := hD
          clear hD
          simp only [fillL, Act.put, List.setIfInBounds_toArray, List.set_cons_zero, List.set_cons_succ, List.getD_cons_zero, List.getD_cons_succ, Is] at hK ⊢
          rw [h12] at hK ⊢
          clear h12
          refine ite_yes (by rfl) ?_
          go_simp
          exact hK _ _ _ rfl (Grew.refl _) rfl
        · intro y w2 hG hD K hK
          simp only [depsH, List.getD_cons_zero, List.getD_cons_succ, Is, and_true] at hD
          have h4 := hD.1
          have h8 := hD.2.1
          have h13 := hD.2.2
          clear hD
          simp only [fillL, Act.put, List.setIfInBounds_toArray, List.set_cons_zero, List.set_cons_succ, List.getD_cons_zero, List.getD_cons_succ, Is] at hK ⊢
          rw [h4, h8, h13] at hK ⊢
          clear h4 h8 h13
          refine ite_yes (by rfl) ?_
          go_simp
          exact hK _ _ _ rfl (Grew.refl _) rfl
        · intro y w2 hG hF K hK
          simp only [factsH, Is, and_true, Nat.reduceAdd] at hF
          have h0 := hF.1
          have h1 := hF.2.1
          have h2 := hF.2.2.1
          have h3 := hF.2.2.2.1
          have h4 := hF.2.2.2.2.1
          have h5 := hF.2.2.2.2.2.1
          have h6 := hF.2.2.2.2.2.2.1
          have h7 := hF.2.2.2.2.2.2.2.1
          have h8 := hF.2.2.2.2.2.2.2.2.1
          have h9 := hF.2.2.2.2.2.2.2.2.2.1
          have h10 := hF.2.2.2.2.2.2.2.2.2.2.1
          have h11 := hF.2.2.2.2.2.2.2.2.2.2.2.1
          have h12 := hF.2.2.2.2.2.2.2.2.2.2.2.2.1
          have h13 := hF.2.2.2.2.2.2.2.2.2.2.2.2.2.1
          have h14 := hF.2.2.2.2.2.2.2.2.2.2.2.2.2.2
          clear hF
          simp only [lastOf]
          simp only [fillL, Act.put, List.setIfInBounds_toArray, List.set_cons_zero, List.set_cons_succ, List.getD_cons_zero, List.getD_cons_succ, Is] at hK ⊢
          rw [h1, h2, h4, h5, h6, h7, h8, h9, h10, h11, h12, h13, h14]
          clear h1 h2 h4 h5 h6 h7 h8 h9 h10 h11 h12 h13 h14
          refine ite_yes (by rfl) ?_
          have HG2 := Lib.hid (HG.out.trans hG)
          have hrow := hG.heap HROW.out
          have f0 := row_frozen hrow 0
          have f1 := row_frozen hrow 1
          have f2 := row_frozen hrow 2
          have c0 := row_cell hrow 0 _ rfl
          have c1 := row_cell hrow 1 _ rfl
          have c2 := row_cell hrow 2 _ rfl
          clear hrow hG
          go_simp
          refine hK _ _ ?_
          go_wp2
          refine bodyPost_ret (v := vV (kindF k5, shlF k4, rr)) (by simp [results, Try.results22, go_sem, c0, c1, c2, vV]) rfl ⟨by rw [HF.out], ((HG2.out.setCell (Nat.le_succ _) _).setCell (Nat.le_succ _) _).setCell (Nat.le_succ _) _⟩
    · subst k1
      clear HK
      have HE : Hid (widF n = 1) := by show _ = _; unfold widF; repeat' split; all_goals omega
      go_wp2_with fail
      refine (bringL_any x0 6 _ (by omega) (by omega)).mono ?_
      rintro r w1 ⟨rfl, rfl⟩
      have m0 : 0 ≤ x0 % 6 := by omega
      have m1 : x0 % 6 < 6 := by omega
      generalize x0 % 6 = m at *
      by_cases e0 : m = 0
      · subst e0
        have HF : Hid (R = (1, 1, n)) := HR.out.trans (by simp [valN, HE.out])
        have hmw : IntKind.u64.wrap n = n := by rw [IntKind.wrap_u64]; omega
        go_wp2_with fail
        refine (num17_any n 1 _).mono ?_
        rintro r w2 ⟨rfl, hg⟩
        have HG2 := Lib.hid (HG.out.trans hg)
        have hrow := hg.heap HROW.out
        have f0 := row_frozen hrow 0
        have f1 := row_frozen hrow 1
        have f2 := row_frozen hrow 2
        have c0 := row_cell hrow 0 _ rfl
        have c1 := row_cell hrow 1 _ rfl
        have c2 := row_cell hrow 2 _ rfl
        clear hrow
        clear hg
        go_wp2
        refine bodyPost_ret (v := vV (1, 1, n)) (by simp [results, Try.results22, go_sem, c0, c1, c2, vV]) rfl ⟨by rw [HF.out], ((HG2.out.setCell (Nat.le_succ _) _).setCell (Nat.le_succ _) _).setCell (Nat.le_succ _) _⟩
      by_cases e1 : m = 1
      · subst e1
        have HF : Hid (R = (1, 1, IntKind.u64.wrap (-n))) := HR.out.trans (by simp [valN, HE.out])
        go_wp2_with fail
        refine (num17_any (-n) 1 _).mono ?_
        rintro r w2 ⟨rfl, hg⟩
        have HG2 := Lib.hid (HG.out.trans hg)
        have hrow := hg.heap HROW.out
        have f0 := row_frozen hrow 0
        have f1 := row_frozen hrow 1
        have f2 := row_frozen hrow 2
        have c0 := row_cell hrow 0 _ rfl
        have c1 := row_cell hrow 1 _ rfl
        have c2 := row_cell hrow 2 _ rfl
        clear hrow
        clear hg
        go_wp2
        refine bodyPost_ret (v := vV (1, 1, IntKind.u64.wrap (-n))) (by simp [results, Try.results22, go_sem, c0, c1, c2, vV]) rfl ⟨by rw [HF.out], ((HG2.out.setCell (Nat.le_succ _) _).setCell (Nat.le_succ _) _).setCell (Nat.le_succ _) _⟩
      by_cases e2 : m = 2
      · subst e2
        have HF : Hid (R = (2, 1, n)) := HR.out.trans (by simp [valN, HE.out])
        have hmw : IntKind.u64.wrap n = n := by rw [IntKind.wrap_u64]; omega
        go_wp2_with fail
        refine (uns17_any n 1 _).mono ?_
        rintro r w2 ⟨rfl, hg⟩
        have HG2 := Lib.hid (HG.out.trans hg)
        have hrow := hg.heap HROW.out
        have f0 := row_frozen hrow 0
        have f1 := row_frozen hrow 1
        have f2 := row_frozen hrow 2
        have c0 := row_cell hrow 0 _ rfl
        have c1 := row_cell hrow 1 _ rfl
        have c2 := row_cell hrow 2 _ rfl
        clear hrow
        clear hg
        go_wp2
        refine bodyPost_ret (v := vV (2, 1, n)) (by simp [results, Try.results22, go_sem, c0, c1, c2, vV]) rfl ⟨by rw [HF.out], ((HG2.out.setCell (Nat.le_succ _) _).setCell (Nat.le_succ _) _).setCell (Nat.le_succ _) _⟩
      by_cases e3 : m = 3
      · subst e3
        have HF : Hid (R = (26, 1, n % 2)) := HR.out.trans (by simp [valN, HE.out])
        have em : n.tmod 2 = n % 2 := Int.tmod_eq_emod_of_nonneg n0
        have hm0 : 0 ≤ n % 2 := by omega
        have hm1 : n % 2 < 2 := by omega
        have hmw : IntKind.u64.wrap (n % 2) = n % 2 := by rw [IntKind.wrap_u64]; omega
        have HG2 := Lib.hid HG.out
        have hrow := HROW.out
        have f0 := row_frozen hrow 0
        have f1 := row_frozen hrow 1
        have f2 := row_frozen hrow 2
        have c0 := row_cell hrow 0 _ rfl
        have c1 := row_cell hrow 1 _ rfl
        have c2 := row_cell hrow 2 _ rfl
        clear hrow
        go_wp2
        refine bodyPost_ret (v := vV (26, 1, n % 2)) (by simp [results, Try.results22, go_sem, c0, c1, c2, vV]) rfl ⟨by rw [HF.out], ((HG2.out.setCell (Nat.le_succ _) _).setCell (Nat.le_succ _) _).setCell (Nat.le_succ _) _⟩
      have HF : Hid (R = farF n a) := HR.out.trans (by simp [valN, e0, e1, e2, e3])
      go_wp2_with fail
      have b0 : (m == 0) = false := by simpa using e0
      have b1 : (m == 1) = false := by simpa using e1
      have b2 : (m == 2) = false := by simpa using e2
      have b3 : (m == 3) = false := by simpa using e3
      simp only [b0, b1, b2, b3]
      clear b0 b1 b2 b3 e0 e1 e2 e3 m0 m1
      clear HR
      obtain ⟨k5, hk5⟩ : ∃ k : Nat, n % 5 = k := ⟨(n % 5).toNat, by omega⟩
      obtain ⟨k4, hk4⟩ : ∃ k : Nat, n / 5 % 4 = k := ⟨(n / 5 % 4).toNat, by omega⟩
      have l5 : k5 < 5 := by omega
      have l4 : k4 < 4 := by omega
      obtain ⟨am, ham⟩ : ∃ m : Int, max a 1 = m := ⟨_, rfl⟩
      have am1 : 1 ≤ am := by omega
      have am2 : am ≤ 4611686018427387904 := by omega
      obtain ⟨q, hq⟩ : ∃ q : Int, n / 5 = q := ⟨_, rfl⟩
      rw [hq] at hk4
      have q0 : 0 ≤ q := by omega
      have q1 : q ≤ 1099511627776 := by omega
      obtain ⟨rr, hrr⟩ : ∃ r : Int, n % am = r := ⟨_, rfl⟩
      have ham0 : ¬ am = 0 := by omega
      replace HF : Hid (R = (kindF k5, shlF k4, rr)) := HF.out.trans (by unfold farF; rw [hk5, hq, hk4, ham, hrr])
      have t5 : n.tmod 5 = (k5 : Int) := by rw [Int.tmod_eq_emod_of_nonneg n0]; exact hk5
      have d5 : n.tdiv 5 = q := by rw [Int.tdiv_eq_ediv_of_nonneg n0]; exact hq
      have t4 : q.tmod 4 = (k4 : Int) := by rw [Int.tmod_eq_emod_of_nonneg q0]; exact hk4
      have tm : n.tmod am = rr := by rw [Int.tmod_eq_emod_of_nonneg n0]; exact hrr
      have r0 : 0 ≤ rr := by rw [← hrr]; exact Int.emod_nonneg _ (by omega)
      have r1 : rr < am := by rw [← hrr]; exact Int.emod_lt_of_pos _ (by omega)
      have HAM := Lib.hid ham
      have qw : IntKind.i64.wrap q = q := by rw [IntKind.wrap_i64]; omega
      have rw1 : IntKind.u64.wrap rr = rr := by rw [IntKind.wrap_u64]; omega
      have i5 : (k5 : Int) < 5 := by omega
      clear hk5 hk4 ham hq hrr
      refine wp_region_last Grew [[], [], [1], [0, 2], [3], [], [5], [6], [7], [], [], [10], [9, 11], [12], [4, 8, 13], [14]] [[(50, 1), (51, 2), (53, 4), (54, 5), (55, 6), (56, 7), (57, 8), (58, 9), (59, 10), (60, 11), (61, 12), (62, 13), (63, 14)], [(49, 0), (52, 3), (53, 4), (54, 5), (55, 6), (56, 7), (57, 8), (58, 9), (59, 10), (60, 11), (61, 12), (62, 13), (63, 14)], [(49, 0), (50, 1), (53, 4), (54, 5), (55, 6), (56, 7), (57, 8), (58, 9), (59, 10), (60, 11), (61, 12), (62, 13), (63, 14)], [(49, 0), (50, 1), (51, 2), (54, 5), (55, 6), (56, 7), (57, 8), (58, 9), (59, 10), (60, 11), (61, 12), (62, 13), (63, 14)], [(49, 0), (50, 1), (51, 2), (52, 3), (54, 5), (55, 6), (56, 7), (57, 8), (58, 9), (59, 10), (60, 11), (61, 12), (62, 13)], [(49, 0), (50, 1), (51, 2), (52, 3), (53, 4), (56, 7), (57, 8), (58, 9), (59, 10), (60, 11), (61, 12), (62, 13), (63, 14)], [(49, 0), (50, 1), (51, 2), (52, 3), (53, 4), (54, 5), (57, 8), (58, 9), (59, 10), (60, 11), (61, 12), (62, 13), (63, 14)], [(49, 0), (50, 1), (51, 2), (52, 3), (53, 4), (54, 5), (55, 6), (58, 9), (59, 10), (60, 11), (61, 12), (62, 13), (63, 14)], [(49, 0), (50, 1), (51, 2), (52, 3), (53, 4), (54, 5), (55, 6), (56, 7), (58, 9), (59, 10), (60, 11), (61, 12), (62, 13)], [(49, 0), (50, 1), (51, 2), (52, 3), (53, 4), (54, 5), (55, 6), (56, 7), (57, 8), (59, 10), (60, 11), (62, 13), (63, 14)], [(49, 0), (50, 1), (51, 2), (52, 3), (53, 4), (54, 5), (55, 6), (56, 7), (57, 8), (58, 9), (61, 12), (62, 13), (63, 14)], [(49, 0), (50, 1), (51, 2), (52, 3), (53, 4), (54, 5), (55, 6), (56, 7), (57, 8), (58, 9), (59, 10), (62, 13), (63, 14)], [(49, 0), (50, 1), (51, 2), (52, 3), (53, 4), (54, 5), (55, 6), (56, 7), (57, 8), (58, 9), (59, 10), (60, 11), (63, 14)], [(49, 0), (50, 1), (51, 2), (52, 3), (53, 4), (54, 5), (55, 6), (56, 7), (57, 8), (58, 9), (59, 10), (60, 11), (61, 12)], [(49, 0), (50, 1), (51, 2), (52, 3), (53, 4), (54, 5), (55, 6), (56, 7), (57, 8), (58, 9), (59, 10), (60, 11), (61, 12), (62, 13)], [(49, 0), (50, 1), (51, 2), (52, 3), (53, 4), (54, 5), (55, 6), (56, 7), (57, 8), (58, 9), (59, 10), (60, 11), (61, 12), (62, 13), (63, 14)]]
        [fun v w => ∃ g, v = .slice (some ⟨g, 0, none⟩) 5 5 ∧ w.heap[g]? = some (.cells tabC 3), Is (.int .i64 n), Is (.int .i64 (k5 : Int)), fun v w => ∃ g, v = .pointer (some ⟨g, k5, none⟩) ∧ w.heap[g]? = some (.cells tabC 3), Is (.int .i64 (kindF k5)), Is (.int .i64 n), Is (.int .i64 q), Is (.int .i64 (k4 : Int)), Is (.int .i64 (shlF k4)), Is (.int .i64 n), Is (.int .i64 a), Is (.int .i64 am), Is (.int .i64 rr), Is (.int .u64 rr), Is (.agg #[.int .i64 (kindF k5), .int .i64 (shlF k4), .int .u64 rr])]
        (by kernel_rfl) Grew.trans Grew.refl (Grew.refl _).drew (by kernel_rfl) ⟨tab_st, is_st, is_st, tabp_st, is_st, is_st, is_st, is_st, is_st, is_st, is_st, is_st, is_st, is_st, is_st, trivial⟩ rfl ⟨?_, ?_, ?_, ?_, ?_, ?_, ?_, ?_, ?_, ?_, ?_, ?_, ?_, ?_, ?_, trivial⟩ ?_ rfl
      · intro y w2 hG hD K hK
        simp only [fillL, Act.put, List.setIfInBounds_toArray, List.set_cons_zero, List.set_cons_succ, List.getD_cons_zero, List.getD_cons_succ, Is] at hK ⊢
        refine ite_yes (by rfl) ?_
        go_simp
        exact hK _ _ _ rfl ((Grew.refl _).alloc _) ⟨_, rfl, heap_alloc_new _ _⟩
      · intro y w2 hG hD K hK
        simp only [fillL, Act.put, List.setIfInBounds_toArray, List.set_cons_zero, List.set_cons_succ, List.getD_cons_zero, List.getD_cons_succ, Is] at hK ⊢
        refine ite_yes (by rfl) ?_
        go_simp
        exact hK _ _ _ rfl (Grew.refl _) rfl
      · intro y w2 hG hD K hK
        simp only [depsH, List.getD_cons_zero, List.getD_cons_succ, Is, and_true] at hD
        have h1 := hD
        clear hD
        simp only [fillL, Act.put, List.setIfInBounds_toArray, List.set_cons_zero, List.set_cons_succ, List.getD_cons_zero, List.getD_cons_succ, Is] at hK ⊢
        rw [h1] at hK ⊢
        clear h1
        refine ite_yes (by rfl) ?_
        go_simp
        exact hK _ _ _ rfl (Grew.refl _) rfl
      · intro y w2 hG hD K hK
        simp only [depsH, List.getD_cons_zero, List.getD_cons_succ, Is, and_true] at hD
        have h0 := hD.1
        have h2 := hD.2
        clear hD
        simp only [fillL, Act.put, List.setIfInBounds_toArray, List.set_cons_zero, List.set_cons_succ, List.getD_cons_zero, List.getD_cons_succ, Is] at hK ⊢
        rw [h2] at hK ⊢
        clear h2
        refine ite_yes (by rfl) ?_
        refine Exists.elim h0 fun g h => ?_
        have hs := h.1
        have hh := h.2
        clear h h0
        rw [hs] at hK ⊢
        go_simp
        exact hK _ _ _ rfl (Grew.refl _) ⟨g, rfl, hh⟩
      · intro y w2 hG hD K hK
        simp only [depsH, List.getD_cons_zero, List.getD_cons_succ, Is, and_true] at hD
        have h3 := hD
        clear hD
        simp only [fillL, Act.put, List.setIfInBounds_toArray, List.set_cons_zero, List.set_cons_succ, List.getD_cons_zero, List.getD_cons_succ, Is] at hK ⊢
        refine ite_yes (by rfl) ?_
        refine Exists.elim h3 fun g h => ?_
        have hs := h.1
        have hc := row_cell h.2 k5 _ (tab_cell k5 l5)
        clear h h3
        rw [hs] at hK ⊢
        go_simp
        exact hK _ _ _ rfl (Grew.refl _) rfl
      · intro y w2 hG hD K hK
        simp only [fillL, Act.put, List.setIfInBounds_toArray, List.set_cons_zero, List.set_cons_succ, List.getD_cons_zero, List.getD_cons_succ, Is] at hK ⊢
        refine ite_yes (by rfl) ?_
        go_simp
        exact hK _ _ _ rfl (Grew.refl _) rfl
      · intro y w2 hG hD K hK
        simp only [depsH, List.getD_cons_zero, List.getD_cons_succ, Is, and_true] at hD
        have h5 := hD
        clear hD
        simp only [fillL, Act.put, List.setIfInBounds_toArray, List.set_cons_zero, List.set_cons_succ, List.getD_cons_zero, List.getD_cons_succ, Is] at hK ⊢
        rw [h5] at hK ⊢
        clear h5
        refine ite_yes (by rfl) ?_
        go_simp
        exact hK _ _ _ rfl (Grew.refl _) rfl
      · intro y w2 hG hD K hK
        simp only [depsH, List.getD_cons_zero, List.getD_cons_succ, Is, and_true] at hD
        have h6 := hD
        clear hD
        simp only [fillL, Act.put, List.setIfInBounds_toArray, List.set_cons_zero, List.set_cons_succ, List.getD_cons_zero, List.getD_cons_succ, Is] at hK ⊢
        rw [h6] at hK ⊢
        clear h6
        refine ite_yes (by rfl) ?_
        go_simp
        exact hK _ _ _ rfl (Grew.refl _) rfl
      · intro y w2 hG hD K hK
        simp only [depsH, List.getD_cons_zero, List.getD_cons_succ, Is, and_true] at hD
        have h7 := hD
        clear hD
        simp only [fillL, Act.put, List.setIfInBounds_toArray, List.set_cons_zero, List.set_cons_succ, List.getD_cons_zero, List.getD_cons_succ, Is] at hK ⊢
        rw [h7] at hK ⊢
        clear h7
        refine ite_yes (by rfl) ?_
        go_simp
        exact hK _ _ _ rfl (Grew.refl _) (congrArg (Value.int _) (shl_small k4 l4))
      · intro y w2 hG hD K hK
        simp only [fillL, Act.put, List.setIfInBounds_toArray, List.set_cons_zero, List.set_cons_succ, List.getD_cons_zero, List.getD_cons_succ, Is] at hK ⊢
        refine ite_yes (by rfl) ?_
        go_simp
        exact hK _ _ _ rfl (Grew.refl _) rfl
      · intro y w2 hG hD K hK
        simp only [fillL, Act.put, List.setIfInBounds_toArray, List.set_cons_zero, List.set_cons_succ, List.getD_cons_zero, List.getD_cons_succ, Is] at hK ⊢
        refine ite_yes (by rfl) ?_
        go_simp
        exact hK _ _ _ rfl (Grew.refl _) rfl
      · intro y w2 hG hD K hK
        simp only [depsH, List.getD_cons_zero, List.getD_cons_succ, Is, and_true] at hD
        have h10 := hD
        clear hD
        simp only [fillL, Act.put, List.setIfInBounds_toArray, List.set_cons_zero, List.set_cons_succ, List.getD_cons_zero, List.getD_cons_succ, Is] at hK ⊢
        rw [h10] at hK ⊢
        clear h10
        refine ite_yes (by rfl) ?_
        go_simp
        exact hK _ _ _ rfl (Grew.refl _) (congrArg (Value.int _) HAM.out)
      · intro y w2 hG hD K hK
        simp only [depsH, List.getD_cons_zero, List.getD_cons_succ, Is, and_true] at hD
        have h9 := hD.1
        have h11 := hD.2
        clear hD
        simp only [fillL, Act.put, List.setIfInBounds_toArray, List.set_cons_zero, List.set_cons_succ, List.getD_cons_zero, List.getD_cons_succ, Is] at hK ⊢
        rw [h9, h11] at hK ⊢
        clear h9 h11
        refine ite_yes (by rfl) ?_
        go_simp
        exact hK _ _ _ rfl (Grew.refl _) rfl
      · intro y w2 hG hD K hK
        simp only [depsH, List.getD_cons_zero, List.getD_cons_succ, Is, and_true] at hD
        have h12 := hD
        clear hD
        simp only [fillL, Act.put, List.setIfInBounds_toArray, List.set_cons_zero, List.set_cons_succ, List.getD_cons_zero, List.getD_cons_succ, Is] at hK ⊢
        rw [h12] at hK ⊢
        clear h12
        refine ite_yes (by rfl) ?_
        go_simp
        exact hK _ _ _ rfl (Grew.refl _) rfl
      · intro y w2 hG hD K hK
        simp only [depsH, List.getD_cons_zero, List.getD_cons_succ, Is, and_true] at hD
        have h4 := hD.1
        have h8 := hD.2.1
        have h13 := hD.2.2
        clear hD
        simp only [fillL, Act.put, List.setIfInBounds_toArray, List.set_cons_zero, List.set_cons_succ, List.getD_cons_zero, List.getD_cons_succ, Is] at hK ⊢
        rw [h4, h8, h13] at hK ⊢
        clear h4 h8 h13
        refine ite_yes (by rfl) ?_
        go_simp
        exact hK _ _ _ rfl (Grew.refl _) rfl
      · intro y w2 hG hF K hK
        simp only [factsH, Is, and_true, Nat.reduceAdd] at hF
        have h0 := hF.1
        have h1 := hF.2.1
        have h2 := hF.2.2.1
        have h3 := hF.2.2.2.1
        have h4 := hF.2.2.2.2.1
        have h5 := hF.2.2.2.2.2.1
        have h6 := hF.2.2.2.2.2.2.1
        have h7 := hF.2.2.2.2.2.2.2.1
        have h8 := hF.2.2.2.2.2.2.2.2.1
        have h9 := hF.2.2.2.2.2.2.2.2.2.1
        have h10 := hF.2.2.2.2.2.2.2.2.2.2.1
        have h11 := hF.2.2.2.2.2.2.2.2.2.2.2.1
        have h12 := hF.2.2.2.2.2.2.2.2.2.2.2.2.1
        have h13 := hF.2.2.2.2.2.2.2.2.2.2.2.2.2.1
        have h14 := hF.2.2.2.2.2.2.2.2.2.2.2.2.2.2
        clear hF
        simp only [lastOf]
        simp only [fillL, Act.put, List.setIfInBounds_toArray, List.set_cons_zero, List.set_cons_succ, List.getD_cons_zero, List.getD_cons_succ, Is] at hK ⊢
        rw [h1, h2, h4, h5, h6, h7, h8, h9, h10, h11, h12, h13, h14]
        clear h1 h2 h4 h5 h6 h7 h8 h9 h10 h11 h12 h13 h14
        refine ite_yes (by rfl) ?_
        have HG2 := Lib.hid (HG.out.trans hG)
        have hrow := hG.heap HROW.out
        have f0 := row_frozen hrow 0
        have f1 := row_frozen hrow 1
        have f2 := row_frozen hrow 2
        have c0 := row_cell hrow 0 _ rfl
        have c1 := row_cell hrow 1 _ rfl
        have c2 := row_cell hrow 2 _ rfl
        clear hrow hG
        go_simp
        refine hK _ _ ?_
        go_wp2
        refine bodyPost_ret (v := vV (kindF k5, shlF k4, rr)) (by simp [results, Try.results22, go_sem, c0, c1, c2, vV]) rfl ⟨by rw [HF.out], ((HG2.out.setCell (Nat.le_succ _) _).setCell (Nat.le_succ _) _).setCell (Nat.le_succ _) _⟩
end Go.Proofs.Ytaoflhddcbmacaa
