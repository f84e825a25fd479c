/-
  The buffer's Align.
-/
import Derived.Test.YtaoflhddcbmacaaBufMisc
import Derived.Shelf.Abstract
namespace Go.Proofs.Ytaoflhddcbmacaa
open Go Go.ChangeShapes Go.WideShapes Go.ChangeAt Go.RowKit Go.Joins
set_option linter.unusedVariables false
set_option linter.unusedSimpArgs false

theorem make_zeros (w : World) (n : Nat) (hn : n ≤ 1099511627776) :
    ∃ w', (Instr.makeSlice 39 (.int .i64 (n : Int)) (.int .i64 (n : Int))).run Try.prog w = .ok (.slice (some ⟨w.heap.size, 0, none⟩) n n) w' ∧ BytesAt w' (.slice (some ⟨w.heap.size, 0, none⟩) n n) (zeros n) ∧ Grew w w' := by
  obtain ⟨i0, hi, hz0, hz1, hz2⟩ := byte_parts
  obtain ⟨w', hr, ho, hg⟩ := run_make_full (P := Try.prog) w w.heap.size 39 5 i0 (.int .u8 0) 1 Try.underlying39 hi hz0 hz1 .i64 .i64 n (by rw [hz2]; omega) (by unfold maxLen; omega) (Nat.le_refl _)
  refine ⟨w', hr, ?_, ⟨hg.os, hg.tape, hg.output, hg.size, fun k hk => hg.block k hk (by simp)⟩⟩
  have e : (madeCells (Value.int .u8 0).cells (n * 1)).toList = Lib.byteCells (zeros n) := by
    show (madeCells #[Value.int .u8 0] (n * 1)).toList = _
    rw [Nat.mul_one, toList_madeCells_one]
    simp [Lib.byteCells, zeros]
  rw [e] at ho
  have e2 : (zeros n).length = n := length_zeros n
  have := BytesAt.of_own (l := zeros n) (v := .slice (some ⟨w.heap.size, 0, none⟩) n n) (w := w') (B := w.heap.size) (t := 5) (by rw [e2]; exact ho)
  exact this
theorem wp_make_run {P : Program} (w : World) {o : Oper} {a : Act} {K : Act → World → Prop} {Q : Exit → Act → World → Prop} (t : TypeId) (l c : Operand)
    (ho : o.op = .makeSlice t l c) (vl vc : Value) (hl : a.eval l = vl) (hc : a.eval c = vc) (v' : Value) (w' : World) (hr : (Instr.makeSlice t vl vc).run P w = .ok v' w') (h : K (a.put o.dst v') w') : o.wp P a w K Q := by
  unfold Oper.wp execOp
  simp only [ho, Sem.run_bind, Sem.run_pure, Result.andThen_ok, hl, hc, hr, Sem.run_map, Functor.map]
  exact h
theorem wp_make_zeros {o : Oper} {a : Act} {K : Act → World → Prop} {Q : Exit → Act → World → Prop} (w : World) (l c : Operand) (ho : o.op = .makeSlice 39 l c) (n : Nat) (hl : a.eval l = .int .i64 n) (hc : a.eval c = .int .i64 n) (hn : n ≤ 1099511627776)
    (h : ∀ v w', BytesAt w' v (zeros n) → Grew w w' → K (a.put o.dst v) w') : o.wp Try.prog a w K Q := by
  obtain ⟨w3, hr, hv, hg⟩ := make_zeros w n hn
  exact wp_make_run w _ _ _ ho _ _ hl hc _ _ hr (h _ _ hv hg)
set_option maxRecDepth 100000 in
theorem alignc_any {B : Nat} {w : World} {p : Nat} {o : Option Nat} {most : Int} (s : St) (x : Int) (a b : Addr) (ca : w.cell? a = some (bptr p)) (cb : w.cell? b = some (.int .i64 x))
    (h : BufAt B w p o s.1 most s.2) (hB : B ≤ w.heap.size) (hl : (s.1.length : Int) ≤ most) (hm1 : most ≤ 1048576) (hx : isW x = true) :
    Calls Try.prog 51 #[.pointer (some a), .pointer (some b)] w fun r w' => r = .returned (.tuple #[]) ∧ TurnB B w w' p o most (alignS most x s) := by
  have HB := Lib.hid h
  have HX := Lib.hid hx
  have hx8 : 1 ≤ x ∧ x ≤ 8 := by rcases isW_cases hx with rfl | rfl | rfl | rfl <;> decide
  obtain ⟨x0, x1⟩ := hx8
  have hp := padN_lt (l := s.1) hx
  have hm0 : 0 ≤ (s.1.length : Int) % x := Int.emod_nonneg _ (by omega)
  have hm2 : (s.1.length : Int) % x < x := Int.emod_lt_of_pos _ (by omega)
  have HP := Lib.hid hp
  have hp1 := hp.1
  clear h hx hp
  have e1 : ((s.1.length : Int)).tmod x = (s.1.length : Int) % x := Int.tmod_eq_emod_of_nonneg (by omega)
  have e2 : (x - (s.1.length : Int) % x).tmod x = (padN s.1 x : Int) := by rw [Int.tmod_eq_emod_of_nonneg (by omega)]; exact HP.out.2.symm
  have e3 : IntKind.i64.wrap (x - (s.1.length : Int) % x) = x - (s.1.length : Int) % x := by rw [IntKind.wrap_i64]; omega
  have hx0 : ¬ (x = 0) := by omega
  go_enter Try.func51, Try.ntmps51
  refine wp_region_last Grew [[], [], [], [2], [], [3, 4], [1, 5], [], [6, 7], [8], [0, 9]] [[(3, 1), (4, 2), (5, 3), (6, 4), (7, 5), (8, 6), (9, 7), (10, 8), (11, 9)], [(2, 0), (4, 2), (5, 3), (6, 4), (7, 5), (9, 7), (10, 8), (11, 9), (12, 10)], [(2, 0), (3, 1), (6, 4), (7, 5), (8, 6), (9, 7), (10, 8), (11, 9), (12, 10)], [(2, 0), (3, 1), (4, 2), (6, 4), (8, 6), (9, 7), (10, 8), (11, 9), (12, 10)], [(2, 0), (3, 1), (4, 2), (5, 3), (8, 6), (9, 7), (10, 8), (11, 9), (12, 10)], [(2, 0), (3, 1), (4, 2), (5, 3), (6, 4), (9, 7), (10, 8), (11, 9), (12, 10)], [(2, 0), (3, 1), (4, 2), (5, 3), (6, 4), (7, 5), (9, 7), (11, 9), (12, 10)], [(2, 0), (3, 1), (4, 2), (5, 3), (6, 4), (7, 5), (8, 6), (11, 9), (12, 10)], [(2, 0), (3, 1), (4, 2), (5, 3), (6, 4), (7, 5), (8, 6), (9, 7), (12, 10)], [(2, 0), (3, 1), (4, 2), (5, 3), (6, 4), (7, 5), (8, 6), (9, 7), (10, 8)], [(2, 0), (3, 1), (4, 2), (5, 3), (6, 4), (7, 5), (8, 6), (9, 7), (10, 8), (11, 9)]]
    [Is (bptr p), Is (.int .i64 x), Is (bptr p), Is (.int .i64 (s.1.length : Int)), Is (.int .i64 x), Is (.int .i64 ((s.1.length : Int) % x)), Is (.int .i64 (x - (s.1.length : Int) % x)), Is (.int .i64 x), Is (.int .i64 (padN s.1 x : Int)), fun v w => BytesAt w v (zeros (padN s.1 x))]
    (by kernel_rfl) Grew.trans Grew.refl (Grew.refl _).drew (by kernel_rfl) ⟨is_st, is_st, is_st, is_st, is_st, is_st, is_st, is_st, is_st, fun _ _ _ hr h => BytesAt.grew h hr, trivial⟩ rfl ⟨?_, ?_, ?_, ?_, ?_, ?_, ?_, ?_, ?_, ?_, trivial⟩ ?_ rfl
  · intro y w2 hG hD K hK
    have dca := hG.cell ca
    have dcb := hG.cell cb
    simp only [fillL, Act.put, List.setIfInBounds_toArray, List.set_cons_zero, List.set_cons_succ, List.getD_cons_zero, List.getD_cons_succ, Is] at hK ⊢
    refine ite_yes (by rfl) ?_
    go_simp
    exact hK _ _ _ rfl (Grew.refl _) rfl
  · intro y w2 hG hD K hK
    have dca := hG.cell ca
    have dcb := hG.cell cb
    simp only [fillL, Act.put, List.setIfInBounds_toArray, List.set_cons_zero, List.set_cons_succ, List.getD_cons_zero, List.getD_cons_succ, Is] at hK ⊢
    refine ite_yes (by rfl) ?_
    go_simp
    exact hK _ _ _ rfl (Grew.refl _) rfl
  · intro y w2 hG hD K hK
    have dca := hG.cell ca
    have dcb := hG.cell cb
    simp only [fillL, Act.put, List.setIfInBounds_toArray, List.set_cons_zero, List.set_cons_succ, List.getD_cons_zero, List.getD_cons_succ, Is] at hK ⊢
    refine ite_yes (by rfl) ?_
    go_simp
    exact hK _ _ _ rfl (Grew.refl _) rfl
  · intro y w2 hG hD K hK
    simp only [depsH, List.getD_cons_zero, List.getD_cons_succ, Is, and_true] at hD
    have h2 := hD
    clear hD
    simp only [fillL, Act.put, List.setIfInBounds_toArray, List.set_cons_zero, List.set_cons_succ, List.getD_cons_zero, List.getD_cons_succ, Is] at hK ⊢
    rw [h2] at hK ⊢
    clear h2
    refine ite_yes (by rfl) ?_
    go_simp
    refine (len_any (HB.out.grew hG)).mono ?_
    rintro r w3 ⟨rfl, rfl⟩
    exact hK _ _ _ rfl (Grew.refl _) rfl
  · intro y w2 hG hD K hK
    have dca := hG.cell ca
    have dcb := hG.cell cb
    simp only [fillL, Act.put, List.setIfInBounds_toArray, List.set_cons_zero, List.set_cons_succ, List.getD_cons_zero, List.getD_cons_succ, Is] at hK ⊢
    refine ite_yes (by rfl) ?_
    go_simp
    exact hK _ _ _ rfl (Grew.refl _) rfl
  · intro y w2 hG hD K hK
    simp only [depsH, List.getD_cons_zero, List.getD_cons_succ, Is, and_true] at hD
    have h3 := hD.1
    have h4 := hD.2
    clear hD
    simp only [fillL, Act.put, List.setIfInBounds_toArray, List.set_cons_zero, List.set_cons_succ, List.getD_cons_zero, List.getD_cons_succ, Is] at hK ⊢
    rw [h3, h4] at hK ⊢
    clear h3 h4
    refine ite_yes (by rfl) ?_
    go_simp
    exact hK _ _ _ rfl (Grew.refl _) rfl
  · intro y w2 hG hD K hK
    simp only [depsH, List.getD_cons_zero, List.getD_cons_succ, Is, and_true] at hD
    have h1 := hD.1
    have h5 := hD.2
    clear hD
    simp only [fillL, Act.put, List.setIfInBounds_toArray, List.set_cons_zero, List.set_cons_succ, List.getD_cons_zero, List.getD_cons_succ, Is] at hK ⊢
    rw [h1, h5] at hK ⊢
    clear h1 h5
    refine ite_yes (by rfl) ?_
    go_simp
    exact hK _ _ _ rfl (Grew.refl _) rfl
  · intro y w2 hG hD K hK
    have dca := hG.cell ca
    have dcb := hG.cell cb
    simp only [fillL, Act.put, List.setIfInBounds_toArray, List.set_cons_zero, List.set_cons_succ, List.getD_cons_zero, List.getD_cons_succ, Is] at hK ⊢
    refine ite_yes (by rfl) ?_
    go_simp
    exact hK _ _ _ rfl (Grew.refl _) rfl
  · intro y w2 hG hD K hK
    simp only [depsH, List.getD_cons_zero, List.getD_cons_succ, Is, and_true] at hD
    have h6 := hD.1
    have h7 := hD.2
    clear hD
    simp only [fillL, Act.put, List.setIfInBounds_toArray, List.set_cons_zero, List.set_cons_succ, List.getD_cons_zero, List.getD_cons_succ, Is] at hK ⊢
    rw [h6, h7] at hK ⊢
    clear h6 h7
    refine ite_yes (by rfl) ?_
    go_simp
    exact hK _ _ _ rfl (Grew.refl _) rfl
  · intro y w2 hG hD K hK
    simp only [depsH, List.getD_cons_zero, List.getD_cons_succ, Is, and_true] at hD
    have h8 := hD
    clear hD
    simp only [fillL, Act.put, List.setIfInBounds_toArray, List.set_cons_zero, List.set_cons_succ, List.getD_cons_zero, List.getD_cons_succ, Is] at hK ⊢
    rw [h8] at hK ⊢
    clear h8
    refine ite_yes (by rfl) ?_
    refine wp_make_zeros w2 _ _ rfl (padN s.1 x) rfl rfl (by omega) ?_
    intro v w3 hv hg
    exact hK _ _ _ rfl hg hv
  · intro y w2 hG hF K hK
    simp only [factsH, Is, and_true, Nat.reduceAdd] at hF
    have h0 := hF.1
    have h1 := hF.2.1
    have h2 := hF.2.2.1
    have h3 := hF.2.2.2.1
    have h4 := hF.2.2.2.2.1
    have h5 := hF.2.2.2.2.2.1
    have h6 := hF.2.2.2.2.2.2.1
    have h7 := hF.2.2.2.2.2.2.2.1
    have h8 := hF.2.2.2.2.2.2.2.2.1
    have h9 := hF.2.2.2.2.2.2.2.2.2
    clear hF
    simp only [lastOf]
    simp only [fillL, Act.put, List.setIfInBounds_toArray, List.set_cons_zero, List.set_cons_succ, List.getD_cons_zero, List.getD_cons_succ, Is] at hK ⊢
    rw [h0, h1, h2, h3, h4, h5, h6, h7, h8]
    clear h0 h1 h2 h3 h4 h5 h6 h7 h8
    refine ite_yes (by rfl) ?_
    go_simp
    refine (putT s (HB.out.grew hG) (Nat.le_trans hB hG.size) hl hm1 h9 (by rw [length_zeros]; omega)).mono ?_
    rintro r w5 ⟨rfl, ht⟩
    refine hK _ _ ?_
    have HT := Lib.hid (TurnB.after hG ht)
    clear ht
    go_wp2
    go_end0
    exact ⟨rfl, by rw [alignS, if_pos HX.out]; exact HT.out⟩

/-- The buffer's Align. -/
theorem align_any {B : Nat} {w : World} {p : Nat} {o : Option Nat} {most : Int} (s : St) (x : Int) (h : BufAt B w p o s.1 most s.2) (hB : B ≤ w.heap.size) (hl : (s.1.length : Int) ≤ most) (hm1 : most ≤ 1048576) :
    Calls Try.prog 25 #[bptr p, .int .i64 x] w fun r w' => r = .returned (.tuple #[]) ∧ TurnB B w w' p o most (alignS most x s) := by
  have HB := Lib.hid h
  clear h
  go_enter Try.func25, Try.ntmps25
  go_wp2_with fail
  have G : Grew w ((w.alloc (.cells #[bptr p] 32)).alloc (.cells #[.int .i64 x] 3)) := ((Grew.refl w).alloc _).alloc _
  refine (with_any s x _ _ (HB.out.grew G) (alignS most x s) (fun hx => by rw [alignS, if_neg (by simp [hx])]) (fun _ => enters_of Try.func51 (by kernel_rfl) rfl _ _) (fun hx => alignc_any s x _ _ (by go_simp) (by go_simp) (HB.out.grew G) (Nat.le_trans hB G.size) hl hm1 hx)).mono ?_
  rintro r w5 ⟨rfl, ht⟩
  have HT := Lib.hid (TurnB.after G ht)
  clear ht G
  go_wp2
  go_end0
  exact ⟨rfl, HT.out⟩
end Go.Proofs.Ytaoflhddcbmacaa
