/-
  Texts of the proof, part 8 of 21.
-/
import Derived.Test.YtajpbclcfjljnaaPAF
import Derived.Shelf.Abstract
import Derived.Test.YtajpbclcfjljnaaPAG

/-
  The buffer's Align.
-/
namespace Go.Proofs.Ytajpbclcfjljnaa
open Go Go.ChangeShapes Go.WideShapes Go.ChangeAt Go.RowKit Go.Joins
set_option linter.unusedVariables false
set_option linter.unusedSimpArgs false
theorem make_zeros (w : World) (n : Nat) (hn : n ≤ 1099511627776) :
    ∃ w', (Instr.makeSlice 36 (.int .i64 (n : Int)) (.int .i64 (n : Int))).run Try.prog w = .ok (.slice (some ⟨w.heap.size, 0, none⟩) n n) w' ∧ BytesAt w' (.slice (some ⟨w.heap.size, 0, none⟩) n n) (zeros n) ∧ Grew w w' := by
  obtain ⟨i0, hi, hz0, hz1, hz2⟩ := byte_parts
  obtain ⟨w', hr, ho, hg⟩ := run_make_full (P := Try.prog) w w.heap.size 36 5 i0 (.int .u8 0) 1 Try.underlying36 hi hz0 hz1 .i64 .i64 n (by rw [hz2]; omega) (by unfold maxLen; omega) (Nat.le_refl _)
  refine ⟨w', hr, ?_, ⟨hg.os, hg.tape, hg.output, hg.size, fun k hk => hg.block k hk (by simp)⟩⟩
  have e : (madeCells (Value.int .u8 0).cells (n * 1)).toList = Lib.byteCells (zeros n) := by
    show (madeCells #[Value.int .u8 0] (n * 1)).toList = _
    rw [Nat.mul_one, toList_madeCells_one]
    simp [Lib.byteCells, zeros]
  rw [e] at ho
  have e2 : (zeros n).length = n := length_zeros n
  have := BytesAt.of_own (l := zeros n) (v := .slice (some ⟨w.heap.size, 0, none⟩) n n) (w := w') (B := w.heap.size) (t := 5) (by rw [e2]; exact ho)
  exact this
theorem wp_make_run {P : Program} (w : World) {o : Oper} {a : Act} {K : Act → World → Prop} {Q : Exit → Act → World → Prop} (t : TypeId) (l c : Operand)
    (ho : o.op = .makeSlice t l c) (vl vc : Value) (hl : a.eval l = vl) (hc : a.eval c = vc) (v' : Value) (w' : World) (hr : (Instr.makeSlice t vl vc).run P w = .ok v' w') (h : K (a.put o.dst v') w') : o.wp P a w K Q := by
  unfold Oper.wp execOp
  simp only [ho, Sem.run_bind, Sem.run_pure, Result.andThen_ok, hl, hc, hr, Sem.run_map, Functor.map]
  exact h
theorem wp_make_zeros {o : Oper} {a : Act} {K : Act → World → Prop} {Q : Exit → Act → World → Prop} (w : World) (l c : Operand) (ho : o.op = .makeSlice 36 l c) (n : Nat) (hl : a.eval l = .int .i64 n) (hc : a.eval c = .int .i64 n) (hn : n ≤ 1099511627776)
    (h : ∀ v w', BytesAt w' v (zeros n) → Grew w w' → K (a.put o.dst v) w') : o.wp Try.prog a w K Q := by
  obtain ⟨w3, hr, hv, hg⟩ := make_zeros w n hn
  exact wp_make_run w _ _ _ ho _ _ hl hc _ _ hr (h _ _ hv hg)
set_option maxRecDepth 100000 in
theorem alignc_any {B : Nat} {w : World} {p : Nat} {o : Option Nat} {most : Int} (s : St) (x : Int) (a b : Addr) (ca : w.cell? a = some (bptr p)) (cb : w.cell? b = some (.int .i64 x))
    (h : BufAt B w p o s.1 most s.2) (hB : B ≤ w.heap.size) (hl : (s.1.length : Int) ≤ most) (hm1 : most ≤ 1048576) (hx : isW x = true) :
    Calls Try.prog 52 #[.pointer (some a), .pointer (some b)] w fun r w' => r = .returned (.tuple #[]) ∧ TurnB B w w' p o most (alignS most x s) := by
  have HB := Lib.hid h
  have HX := Lib.hid hx
  have hx8 : 1 ≤ x ∧ x ≤ 8 := by rcases isW_cases hx with rfl | rfl | rfl | rfl <;> decide
  obtain ⟨x0, x1⟩ := hx8
  have hp := padN_lt (l := s.1) hx
  have hm0 : 0 ≤ (s.1.length : Int) % x := Int.emod_nonneg _ (by omega)
  have hm2 : (s.1.length : Int) % x < x := Int.emod_lt_of_pos _ (by omega)
  have HP := Lib.hid hp
  have hp1 := hp.1
  clear h hx hp
  have e1 : ((s.1.length : Int)).tmod x = (s.1.length : Int) % x := Int.tmod_eq_emod_of_nonneg (by omega)
  have e2 : (x - (s.1.length : Int) % x).tmod x = (padN s.1 x : Int) := by rw [Int.tmod_eq_emod_of_nonneg (by omega)]; exact HP.out.2.symm
  have e3 : IntKind.i64.wrap (x - (s.1.length : Int) % x) = x - (s.1.length : Int) % x := by rw [IntKind.wrap_i64]; omega
  have hx0 : ¬ (x = 0) := by omega
  go_enter Try.func52, Try.ntmps52
  refine wp_region_last Grew [[], [], [], [2], [], [3, 4], [1, 5], [], [6, 7], [8], [0, 9]] [[(3, 1), (4, 2), (5, 3), (6, 4), (7, 5), (8, 6), (9, 7), (10, 8), (11, 9)], [(2, 0), (4, 2), (5, 3), (6, 4), (7, 5), (9, 7), (10, 8), (11, 9), (12, 10)], [(2, 0), (3, 1), (6, 4), (7, 5), (8, 6), (9, 7), (10, 8), (11, 9), (12, 10)], [(2, 0), (3, 1), (4, 2), (6, 4), (8, 6), (9, 7), (10, 8), (11, 9), (12, 10)], [(2, 0), (3, 1), (4, 2), (5, 3), (8, 6), (9, 7), (10, 8), (11, 9), (12, 10)], [(2, 0), (3, 1), (4, 2), (5, 3), (6, 4), (9, 7), (10, 8), (11, 9), (12, 10)], [(2, 0), (3, 1), (4, 2), (5, 3), (6, 4), (7, 5), (9, 7), (11, 9), (12, 10)], [(2, 0), (3, 1), (4, 2), (5, 3), (6, 4), (7, 5), (8, 6), (11, 9), (12, 10)], [(2, 0), (3, 1), (4, 2), (5, 3), (6, 4), (7, 5), (8, 6), (9, 7), (12, 10)], [(2, 0), (3, 1), (4, 2), (5, 3), (6, 4), (7, 5), (8, 6), (9, 7), (10, 8)], [(2, 0), (3, 1), (4, 2), (5, 3), (6, 4), (7, 5), (8, 6), (9, 7), (10, 8), (11, 9)]]
    [Is (bptr p), Is (.int .i64 x), Is (bptr p), Is (.int .i64 (s.1.length : Int)), Is (.int .i64 x), Is (.int .i64 ((s.1.length : Int) % x)), Is (.int .i64 (x - (s.1.length : Int) % x)), Is (.int .i64 x), Is (.int .i64 (padN s.1 x : Int)), fun v w => BytesAt w v (zeros (padN s.1 x))]
    (by kernel_rfl) Grew.trans Grew.refl (Grew.refl _).drew (by kernel_rfl) ⟨is_st, is_st, is_st, is_st, is_st, is_st, is_st, is_st, is_st, fun _ _ _ hr h => BytesAt.grew h hr, trivial⟩ rfl ⟨?_, ?_, ?_, ?_, ?_, ?_, ?_, ?_, ?_, ?_, trivial⟩ ?_ rfl
  · intro y w2 hG hD K hK
    have dca := hG.cell ca
    have dcb := hG.cell cb
    simp only [fillL, Act.put, List.setIfInBounds_toArray, List.set_cons_zero, List.set_cons_succ, List.getD_cons_zero, List.getD_cons_succ, Is] at hK ⊢
    refine ite_yes (by rfl) ?_
    go_simp
    exact hK _ _ _ rfl (Grew.refl _) rfl
  · intro y w2 hG hD K hK
    have dca := hG.cell ca
    have dcb := hG.cell cb
    simp only [fillL, Act.put, List.setIfInBounds_toArray, List.set_cons_zero, List.set_cons_succ, List.getD_cons_zero, List.getD_cons_succ, Is] at hK ⊢
    refine ite_yes (by rfl) ?_
    go_simp
    exact hK _ _ _ rfl (Grew.refl _) rfl
  · intro y w2 hG hD K hK
    have dca := hG.cell ca
    have dcb := hG.cell cb
    simp only [fillL, Act.put, List.setIfInBounds_toArray, List.set_cons_zero, List.set_cons_succ, List.getD_cons_zero, List.getD_cons_succ, Is] at hK ⊢
    refine ite_yes (by rfl) ?_
    go_simp
    exact hK _ _ _ rfl (Grew.refl _) rfl
  · intro y w2 hG hD K hK
    simp only [depsH, List.getD_cons_zero, List.getD_cons_succ, Is, and_true] at hD
    have h2 := hD
    clear hD
    simp only [fillL, Act.put, List.setIfInBounds_toArray, List.set_cons_zero, List.set_cons_succ, List.getD_cons_zero, List.getD_cons_succ, Is] at hK ⊢
    rw [h2] at hK ⊢
    clear h2
    refine ite_yes (by rfl) ?_
    go_simp
    refine (len_any (HB.out.grew hG)).mono ?_
    rintro r w3 ⟨rfl, rfl⟩
    exact hK _ _ _ rfl (Grew.refl _) rfl
  · intro y w2 hG hD K hK
    have dca := hG.cell ca
    have dcb := hG.cell cb
    simp only [fillL, Act.put, List.setIfInBounds_toArray, List.set_cons_zero, List.set_cons_succ, List.getD_cons_zero, List.getD_cons_succ, Is] at hK ⊢
    refine ite_yes (by rfl) ?_
    go_simp
    exact hK _ _ _ rfl (Grew.refl _) rfl
  · intro y w2 hG hD K hK
    simp only [depsH, List.getD_cons_zero, List.getD_cons_succ, Is, and_true] at hD
    have h3 := hD.1
    have h4 := hD.2
    clear hD
    simp only [fillL, Act.put, List.setIfInBounds_toArray, List.set_cons_zero, List.set_cons_succ, List.getD_cons_zero, List.getD_cons_succ, Is] at hK ⊢
    rw [h3, h4] at hK ⊢
    clear h3 h4
    refine ite_yes (by rfl) ?_
    go_simp
    exact hK _ _ _ rfl (Grew.refl _) rfl
  · intro y w2 hG hD K hK
    simp only [depsH, List.getD_cons_zero, List.getD_cons_succ, Is, and_true] at hD
    have h1 := hD.1
    have h5 := hD.2
    clear hD
    simp only [fillL, Act.put, List.setIfInBounds_toArray, List.set_cons_zero, List.set_cons_succ, List.getD_cons_zero, List.getD_cons_succ, Is] at hK ⊢
    rw [h1, h5] at hK ⊢
    clear h1 h5
    refine ite_yes (by rfl) ?_
    go_simp
    exact hK _ _ _ rfl (Grew.refl _) rfl
  · intro y w2 hG hD K hK
    have dca := hG.cell ca
    have dcb := hG.cell cb
    simp only [fillL, Act.put, List.setIfInBounds_toArray, List.set_cons_zero, List.set_cons_succ, List.getD_cons_zero, List.getD_cons_succ, Is] at hK ⊢
    refine ite_yes (by rfl) ?_
    go_simp
    exact hK _ _ _ rfl (Grew.refl _) rfl
  · intro y w2 hG hD K hK
    simp only [depsH, List.getD_cons_zero, List.getD_cons_succ, Is, and_true] at hD
    have h6 := hD.1
    have h7 := hD.2
    clear hD
    simp only [fillL, Act.put, List.setIfInBounds_toArray, List.set_cons_zero, List.set_cons_succ, List.getD_cons_zero, List.getD_cons_succ, Is] at hK ⊢
    rw [h6, h7] at hK ⊢
    clear h6 h7
    refine ite_yes (by rfl) ?_
    go_simp
    exact hK _ _ _ rfl (Grew.refl _) rfl
  · intro y w2 hG hD K hK
    simp only [depsH, List.getD_cons_zero, List.getD_cons_succ, Is, and_true] at hD
    have h8 := hD
    clear hD
    simp only [fillL, Act.put, List.setIfInBounds_toArray, List.set_cons_zero, List.set_cons_succ, List.getD_cons_zero, List.getD_cons_succ, Is] at hK ⊢
    rw [h8] at hK ⊢
    clear h8
    refine ite_yes (by rfl) ?_
    refine wp_make_zeros w2 _ _ rfl (padN s.1 x) rfl rfl (by omega) ?_
    intro v w3 hv hg
    exact hK _ _ _ rfl hg hv
  · intro y w2 hG hF K hK
    simp only [factsH, Is, and_true, Nat.reduceAdd] at hF
    have h0 := hF.1
    have h1 := hF.2.1
    have h2 := hF.2.2.1
    have h3 := hF.2.2.2.1
    have h4 := hF.2.2.2.2.1
    have h5 := hF.2.2.2.2.2.1
    have h6 := hF.2.2.2.2.2.2.1
    have h7 := hF.2.2.2.2.2.2.2.1
    have h8 := hF.2.2.2.2.2.2.2.2.1
    have h9 := hF.2.2.2.2.2.2.2.2.2
    clear hF
    simp only [lastOf]
    simp only [fillL, Act.put, List.setIfInBounds_toArray, List.set_cons_zero, List.set_cons_succ, List.getD_cons_zero, List.getD_cons_succ, Is] at hK ⊢
    rw [h0, h1, h2, h3, h4, h5, h6, h7, h8]
    clear h0 h1 h2 h3 h4 h5 h6 h7 h8
    refine ite_yes (by rfl) ?_
    go_simp
    refine (putT s (HB.out.grew hG) (Nat.le_trans hB hG.size) hl hm1 h9 (by rw [length_zeros]; omega)).mono ?_
    rintro r w5 ⟨rfl, ht⟩
    refine hK _ _ ?_
    have HT := Lib.hid (TurnB.after hG ht)
    clear ht
    go_wp2
    go_end0
    exact ⟨rfl, by rw [alignS, if_pos HX.out]; exact HT.out⟩
theorem align_any {B : Nat} {w : World} {p : Nat} {o : Option Nat} {most : Int} (s : St) (x : Int) (h : BufAt B w p o s.1 most s.2) (hB : B ≤ w.heap.size) (hl : (s.1.length : Int) ≤ most) (hm1 : most ≤ 1048576) :
    Calls Try.prog 29 #[bptr p, .int .i64 x] w fun r w' => r = .returned (.tuple #[]) ∧ TurnB B w w' p o most (alignS most x s) := by
  have HB := Lib.hid h
  clear h
  go_enter Try.func29, Try.ntmps29
  go_wp2_with fail
  have G : Grew w ((w.alloc (.cells #[bptr p] 26)).alloc (.cells #[.int .i64 x] 3)) := ((Grew.refl w).alloc _).alloc _
  refine (with_any s x _ _ (HB.out.grew G) (alignS most x s) (fun hx => by rw [alignS, if_neg (by simp [hx])]) (fun _ => enters_of Try.func52 (by kernel_rfl) rfl _ _) (fun hx => alignc_any s x _ _ (by go_simp) (by go_simp) (HB.out.grew G) (Nat.le_trans hB G.size) hl hm1 hx)).mono ?_
  rintro r w5 ⟨rfl, ht⟩
  have HT := Lib.hid (TurnB.after G ht)
  clear ht G
  go_wp2
  go_end0
  exact ⟨rfl, HT.out⟩
end Go.Proofs.Ytajpbclcfjljnaa

/-
  The buffer's Text, with sum.
-/
namespace Go.Proofs.Ytajpbclcfjljnaa
open Go Go.ChangeShapes Go.WideShapes Go.ChangeAt Go.RowKit Go.Joins
set_option linter.unusedVariables false
set_option linter.unusedSimpArgs false
theorem sum_any (w : World) (lv : Value) (ss : List ByteArray) (hs : StrsAt w lv ss) (hsl : ss.length ≤ 1048576) (hss : sizeS ss ≤ 1073741824) :
    Calls Try.prog 38 #[lv] w fun r w' => r = .returned (.int .i64 (sizeS ss)) ∧ w' = w := by
  obtain ⟨a, c, rfl, hcell⟩ := hs.form
  have HC := Lib.hid hcell
  clear hs hcell
  go_enter Try.func38, Try.ntmps38
  go_wp2_with fail
  go_loopw [2, 4, 7] (fun t _ i wr => wr = w ∧ ∃ k : Nat, k ≤ ss.length ∧ i = .int .i64 k ∧ ∃ z : Nat, t = .int .i64 z ∧ Hid (z = sizeS (ss.take k))) (fun _ _ i _ => ss.length - (intOf i).toNat)
  case atStart => exact ⟨rfl, 0, Nat.zero_le _, rfl, 0, rfl, rfl⟩
  case round =>
    obtain ⟨rfl, k, hk, rfl, z, rfl, HZ⟩ := hrel
    have hz : z ≤ 1073741824 := by rw [HZ.out]; have := sizeS_take ss k; omega
    by_cases hlt : k < ss.length
    · obtain ⟨bl, off, rfl, hc⟩ := HC.out k ss[k] (List.getElem?_eq_getElem hlt)
      have hz2 : ss[k].size ≤ 1073741824 := by have := sizeS_snoc ss k hlt; have := sizeS_take ss (k + 1); omega
      have HN : Hid (z + ss[k].size = sizeS (ss.take (k + 1))) := by show _ = _; rw [sizeS_snoc ss k hlt, HZ.out]
      generalize ss[k] = sk at *
      go_wp2
      go_roundw
      case rel => exact ⟨trivial, k + 1, by omega, by go_num, z + sk.size, by go_num, HN⟩
      case measure => simp [intOf]; omega
    · have e : k = ss.length := by omega
      have HE : Hid (z = sizeS ss) := by show _ = _; rw [HZ.out, e, List.take_length]
      clear HZ e
      go_wp2
      go_ret
      exact ⟨by rw [← HE.out]; rfl, rfl⟩
theorem put_fit (most : Int) (l y : List UInt8) (hf : (l.length : Int) + y.length ≤ most) : putS most y (l, 0) = (l ++ y, 0) := by
  show (putL l y most 0, putE l y most 0) = _
  unfold putL putE
  have h1 : ((0 : Int) = 0 ∧ (y.length : Int) ≤ most - l.length) := ⟨rfl, by omega⟩
  have h2 : ¬ ((0 : Int) = 0 ∧ ¬ (y.length : Int) ≤ most - l.length) := fun h => h.2 (by omega)
  rw [if_pos h1, if_neg h2]
set_option maxRecDepth 100000 in
set_option maxHeartbeats 1000000 in
theorem text_any {B : Nat} {w : World} {p : Nat} {o : Option Nat} {most : Int} (s : St) (lv : Value) (ss : List ByteArray) (h : BufAt B w p o s.1 most s.2) (hB : B ≤ w.heap.size) (hl : (s.1.length : Int) ≤ most) (hm1 : most ≤ 1048576)
    (hs : StrsAt w lv ss) (hsl : ss.length ≤ 1048576) (hss : sizeS ss ≤ 1073741824) (hap : ∀ ad n c, lv = .slice (some ad) n c → ¬ Own2 p o ad.block) :
    Calls Try.prog 18 #[bptr p, lv] w fun r w' => r = .returned (.tuple #[]) ∧ TurnB B w w' p o most (putS most (bytesS ss) s) := by
  have HB := Lib.hid h
  have HS := Lib.hid hs
  obtain ⟨a, c, rfl, hcell⟩ := hs.form
  have HC := Lib.hid hcell
  have HA := Lib.hid hap
  have hb := h
  obtain ⟨_, v, h1, h2, _⟩ := hb
  obtain ⟨c0, c1, c2, c3⟩ := four_cells h1
  have hmm : IntKind.i64.wrap (most - (s.1.length : Int)) = most - (s.1.length : Int) := by rw [IntKind.wrap_i64]; omega
  clear h hs hcell h1 h2 hap
  go_enter Try.func18, Try.ntmps18
  go_wp2_with fail
  refine (err_any HB.out).mono ?_
  rintro r w' ⟨rfl, rfl⟩
  by_cases he : s.2 = 0
  · have HE := Lib.hid he
    rw [he] at c3 ⊢
    clear he
    by_cases hf : (sizeS ss : Int) ≤ most - s.1.length
    · have hdec : decide (most - (s.1.length : Int) < (sizeS ss : Int)) = false := by simp; omega
      have HSZ : Hid ((bytesS ss).length = sizeS ss) := bytesS_length ss
      go_wp2_with fail
      refine wp_region_tables Grew [[], [0], [], [2], [3], [4], [], [6], [5, 7], [1, 8]] [[(12, 2), (13, 3), (14, 4), (15, 5), (16, 6), (17, 7), (18, 8), (19, 9)], [(10, 0), (12, 2), (13, 3), (14, 4), (15, 5), (16, 6), (17, 7), (18, 8)], [(10, 0), (11, 1), (14, 4), (15, 5), (16, 6), (17, 7), (18, 8), (19, 9)], [(10, 0), (11, 1), (12, 2), (15, 5), (16, 6), (17, 7), (18, 8), (19, 9)], [(10, 0), (11, 1), (12, 2), (13, 3), (16, 6), (17, 7), (18, 8), (19, 9)], [(10, 0), (11, 1), (12, 2), (13, 3), (14, 4), (16, 6), (17, 7), (19, 9)], [(10, 0), (11, 1), (12, 2), (13, 3), (14, 4), (15, 5), (18, 8), (19, 9)], [(10, 0), (11, 1), (12, 2), (13, 3), (14, 4), (15, 5), (16, 6), (19, 9)], [(10, 0), (11, 1), (12, 2), (13, 3), (14, 4), (15, 5), (16, 6), (17, 7)], [(10, 0), (11, 1), (12, 2), (13, 3), (14, 4), (15, 5), (16, 6), (17, 7), (18, 8)]] [(10, 0), (11, 1), (12, 2), (13, 3), (14, 4), (15, 5), (16, 6), (17, 7), (18, 8), (19, 9)]
        [Is (.slice a ss.length c), Is (.int .i64 (sizeS ss : Int)), Is (bptr p), Is (bptr p), Is (.pointer (some ⟨p, 2, none⟩)), Is (.int .i64 most), Is (bptr p), Is (.int .i64 (s.1.length : Int)), Is (.int .i64 (most - (s.1.length : Int))), Is (.bool false)]
        (by kernel_rfl) Grew.trans Grew.refl (Grew.refl _).drew (by kernel_rfl) ⟨is_st, is_st, is_st, is_st, is_st, is_st, is_st, is_st, is_st, is_st, trivial⟩ ⟨?_, ?_, ?_, ?_, ?_, ?_, ?_, ?_, ?_, ?_, trivial⟩ rfl ?_
      · intro y w2 hG hD K hK
        simp only [fillL, Act.put, List.setIfInBounds_toArray, List.set_cons_zero, List.set_cons_succ, List.getD_cons_zero, List.getD_cons_succ, Is] at hK ⊢
        refine ite_yes (by rfl) ?_
        go_simp
        exact hK _ _ _ rfl (Grew.refl _) rfl
      · intro y w2 hG hD K hK
        simp only [depsH, List.getD_cons_zero, List.getD_cons_succ, Is, and_true] at hD
        have h0 := hD
        clear hD
        simp only [fillL, Act.put, List.setIfInBounds_toArray, List.set_cons_zero, List.set_cons_succ, List.getD_cons_zero, List.getD_cons_succ, Is] at hK ⊢
        rw [h0] at hK ⊢
        clear h0
        refine ite_yes (by rfl) ?_
        go_simp
        refine (sum_any w2 _ ss (HS.out.grew hG) hsl hss).mono ?_
        rintro r w3 ⟨rfl, rfl⟩
        exact hK _ _ _ rfl (Grew.refl _) rfl
      · intro y w2 hG hD K hK
        simp only [fillL, Act.put, List.setIfInBounds_toArray, List.set_cons_zero, List.set_cons_succ, List.getD_cons_zero, List.getD_cons_succ, Is] at hK ⊢
        refine ite_yes (by rfl) ?_
        go_simp
        exact hK _ _ _ rfl (Grew.refl _) rfl
      · intro y w2 hG hD K hK
        simp only [depsH, List.getD_cons_zero, List.getD_cons_succ, Is, and_true] at hD
        have h2 := hD
        clear hD
        simp only [fillL, Act.put, List.setIfInBounds_toArray, List.set_cons_zero, List.set_cons_succ, List.getD_cons_zero, List.getD_cons_succ, Is] at hK ⊢
        rw [h2] at hK ⊢
        clear h2
        refine ite_yes (by rfl) ?_
        go_simp
        exact hK _ _ _ rfl (Grew.refl _) rfl
      · intro y w2 hG hD K hK
        simp only [depsH, List.getD_cons_zero, List.getD_cons_succ, Is, and_true] at hD
        have h3 := hD
        clear hD
        simp only [fillL, Act.put, List.setIfInBounds_toArray, List.set_cons_zero, List.set_cons_succ, List.getD_cons_zero, List.getD_cons_succ, Is] at hK ⊢
        rw [h3] at hK ⊢
        clear h3
        refine ite_yes (by rfl) ?_
        go_simp
        exact hK _ _ _ rfl (Grew.refl _) rfl
      · intro y w2 hG hD K hK
        simp only [depsH, List.getD_cons_zero, List.getD_cons_succ, Is, and_true] at hD
        have h4 := hD
        clear hD
        have dc2 := hG.cell c2
        simp only [fillL, Act.put, List.setIfInBounds_toArray, List.set_cons_zero, List.set_cons_succ, List.getD_cons_zero, List.getD_cons_succ, Is] at hK ⊢
        rw [h4] at hK ⊢
        clear h4
        refine ite_yes (by rfl) ?_
        go_simp
        exact hK _ _ _ rfl (Grew.refl _) rfl
      · intro y w2 hG hD K hK
        simp only [fillL, Act.put, List.setIfInBounds_toArray, List.set_cons_zero, List.set_cons_succ, List.getD_cons_zero, List.getD_cons_succ, Is] at hK ⊢
        refine ite_yes (by rfl) ?_
        go_simp
        exact hK _ _ _ rfl (Grew.refl _) rfl
      · intro y w2 hG hD K hK
        simp only [depsH, List.getD_cons_zero, List.getD_cons_succ, Is, and_true] at hD
        have h6 := hD
        clear hD
        simp only [fillL, Act.put, List.setIfInBounds_toArray, List.set_cons_zero, List.set_cons_succ, List.getD_cons_zero, List.getD_cons_succ, Is] at hK ⊢
        rw [h6] at hK ⊢
        clear h6
        refine ite_yes (by rfl) ?_
        go_simp
        refine (len_any (HB.out.grew hG)).mono ?_
        rintro r w3 ⟨rfl, rfl⟩
        exact hK _ _ _ rfl (Grew.refl _) rfl
      · intro y w2 hG hD K hK
        simp only [depsH, List.getD_cons_zero, List.getD_cons_succ, Is, and_true] at hD
        have h5 := hD.1
        have h7 := hD.2
        clear hD
        simp only [fillL, Act.put, List.setIfInBounds_toArray, List.set_cons_zero, List.set_cons_succ, List.getD_cons_zero, List.getD_cons_succ, Is] at hK ⊢
        rw [h5, h7] at hK ⊢
        clear h5 h7
        refine ite_yes (by rfl) ?_
        go_simp
        exact hK _ _ _ rfl (Grew.refl _) rfl
      · intro y w2 hG hD K hK
        simp only [depsH, List.getD_cons_zero, List.getD_cons_succ, Is, and_true] at hD
        have h1 := hD.1
        have h8 := hD.2
        clear hD
        simp only [fillL, Act.put, List.setIfInBounds_toArray, List.set_cons_zero, List.set_cons_succ, List.getD_cons_zero, List.getD_cons_succ, Is] at hK ⊢
        rw [h1, h8] at hK ⊢
        clear h1 h8
        refine ite_yes (by rfl) ?_
        go_simp
        exact hK _ _ _ rfl (Grew.refl _) rfl
      · intro y w2 hG hF
        simp only [factsH, Is, and_true, Nat.reduceAdd] at hF
        have h0 := hF.1
        have h1 := hF.2.1
        have h2 := hF.2.2.1
        have h3 := hF.2.2.2.1
        have h4 := hF.2.2.2.2.1
        have h5 := hF.2.2.2.2.2.1
        have h6 := hF.2.2.2.2.2.2.1
        have h7 := hF.2.2.2.2.2.2.2.1
        have h8 := hF.2.2.2.2.2.2.2.2.1
        have h9 := hF.2.2.2.2.2.2.2.2.2
        clear hF
        simp only [fillL, Act.put, List.setIfInBounds_toArray, List.set_cons_zero, List.set_cons_succ, List.getD_cons_zero, List.getD_cons_succ, Is]
        rw [h0, h1, h2, h3, h4, h5, h6, h7, h8, h9]
        clear h0 h1 h2 h3 h4 h5 h6 h7 h8 h9
        clear c0 c1 c2 c3 hmm hdec
        go_wp2_with fail
        go_loopw [6, 26] (fun _ i wr => ∃ k : Nat, k ≤ ss.length ∧ i = .int .i64 k ∧ Hid (TurnB B w' wr p o most (s.1 ++ bytesS (ss.take k), 0))) (fun _ i _ => ss.length - (intOf i).toNat)
        case atStart =>
          refine ⟨0, Nat.zero_le _, rfl, ?_⟩
          show TurnB _ _ _ _ _ _ _
          refine TurnB.after hG (TurnB.refl ?_)
          have h5 := HB.out.grew hG
          rw [HE.out] at h5
          simpa [bytesS] using h5
        case round =>
          obtain ⟨k, hk, rfl, HW⟩ := hrel
          by_cases hlt : k < ss.length
          · obtain ⟨bl, off, rfl, hc0⟩ := HC.out k ss[k] (List.getElem?_eq_getElem hlt)
            have hc : wr.cell? ⟨bl, off + k, none⟩ = some (.string ss[k]) := by
              obtain ⟨o', _, _, hm⟩ := HW.out
              exact hm.cell hc0 (HA.out ⟨bl, off, none⟩ _ _ rfl)
            have hz2 : ss[k].size ≤ 1073741824 := by have := sizeS_snoc ss k hlt; have := sizeS_take ss (k + 1); omega
            obtain ⟨bv, w3, hr, hv, hg⟩ := bytes_of_str wr ss[k] (by omega)
            have hlen : (bytesS (ss.take k)).length + (ss[k].data.toList).length ≤ sizeS ss := by rw [bytesS_length]; have := sizeS_snoc ss k hlt; have := sizeS_take ss (k + 1); have e9 : (ss[k].data.toList).length = ss[k].size := rfl; omega
            have HL := Lib.hid hlen
            have HN : Hid (bytesS (ss.take (k + 1)) = bytesS (ss.take k) ++ ss[k].data.toList) := bytesS_snoc ss k hlt
            have HV := Lib.hid (And.intro hv hg)
            have hw3 := hg.size
            have hBr : B ≤ wr.heap.size := by obtain ⟨o', _, _, hm⟩ := HW.out; have := hm.size; omega
            clear hv hg hlen hc0
            generalize ss[k] = sk at *
            have hdo : Calls Try.prog 40 #[bptr p, bv] w3 fun r w'' => r = .returned (.tuple #[]) ∧ TurnB B w' w'' p o most (s.1 ++ bytesS (ss.take (k + 1)), 0) := by
              obtain ⟨o', k1, k2, k3⟩ := HW.out
              have hL := HL.out
              refine (putT (s.1 ++ bytesS (ss.take k), 0) (k1.grew HV.out.2) (by omega) (by simp; omega) hm1 HV.out.1 (by omega)).mono ?_
              rintro r w'' ⟨rfl, ht⟩
              rw [put_fit _ _ _ (by rw [List.length_append]; omega)] at ht
              obtain ⟨o2, t1, t2, t3⟩ := TurnB.after HV.out.2 ht
              exact ⟨rfl, o2, by rw [HN.out, ← List.append_assoc]; exact t1, k2.trans t2 k3.size, k3.own k2 t3⟩
            have HD := Lib.hid hdo
            have he38 : ∀ args w, (callFunc 40 args).run Try.prog w = .ok (.enter 40 args) w := enters_of Try.func40 (by kernel_rfl) rfl
            clear hdo HW HV
            go_wp2_with fail
            refine HD.out.mono ?_
            rintro r w4 ⟨rfl, ht⟩
            have HT := Lib.hid ht
            clear ht
            go_wp2
            go_roundw
            case rel => exact ⟨k + 1, by omega, by go_num, HT⟩
            case measure => simp [intOf]; omega
          · have e : k = ss.length := by omega
            have HF : Hid (TurnB B w' wr p o most (putS most (bytesS ss) s)) := by
              have h5 := HW.out
              rw [e, List.take_length] at h5
              have e7 : putS most (bytesS ss) s = (s.1 ++ bytesS ss, 0) := by
                unfold putS putL putE
                have := HSZ.out
                rw [if_pos ⟨HE.out, by omega⟩, if_neg (fun h => h.2 (by omega)), HE.out]
              show TurnB _ _ _ _ _ _ _
              rw [e7]; exact h5
            clear HW
            go_wp2
            go_end0
            exact ⟨rfl, HF.out⟩
    · have hdec : decide (most - (s.1.length : Int) < (sizeS ss : Int)) = true := by simp; omega
      have HF : Hid (putS most (bytesS ss) s = failP 5 s) := by
        show _ = _
        unfold putS failP putL putE failS
        have := bytesS_length ss
        rw [if_neg (fun h => by have := h.2; omega), if_pos ⟨HE.out, fun h => by omega⟩, if_pos HE.out]
      go_wp2_with fail
      refine wp_region_tables Grew [[], [0], [], [2], [3], [4], [], [6], [5, 7], [1, 8]] [[(12, 2), (13, 3), (14, 4), (15, 5), (16, 6), (17, 7), (18, 8), (19, 9)], [(10, 0), (12, 2), (13, 3), (14, 4), (15, 5), (16, 6), (17, 7), (18, 8)], [(10, 0), (11, 1), (14, 4), (15, 5), (16, 6), (17, 7), (18, 8), (19, 9)], [(10, 0), (11, 1), (12, 2), (15, 5), (16, 6), (17, 7), (18, 8), (19, 9)], [(10, 0), (11, 1), (12, 2), (13, 3), (16, 6), (17, 7), (18, 8), (19, 9)], [(10, 0), (11, 1), (12, 2), (13, 3), (14, 4), (16, 6), (17, 7), (19, 9)], [(10, 0), (11, 1), (12, 2), (13, 3), (14, 4), (15, 5), (18, 8), (19, 9)], [(10, 0), (11, 1), (12, 2), (13, 3), (14, 4), (15, 5), (16, 6), (19, 9)], [(10, 0), (11, 1), (12, 2), (13, 3), (14, 4), (15, 5), (16, 6), (17, 7)], [(10, 0), (11, 1), (12, 2), (13, 3), (14, 4), (15, 5), (16, 6), (17, 7), (18, 8)]] [(10, 0), (11, 1), (12, 2), (13, 3), (14, 4), (15, 5), (16, 6), (17, 7), (18, 8), (19, 9)]
        [Is (.slice a ss.length c), Is (.int .i64 (sizeS ss : Int)), Is (bptr p), Is (bptr p), Is (.pointer (some ⟨p, 2, none⟩)), Is (.int .i64 most), Is (bptr p), Is (.int .i64 (s.1.length : Int)), Is (.int .i64 (most - (s.1.length : Int))), Is (.bool true)]
        (by kernel_rfl) Grew.trans Grew.refl (Grew.refl _).drew (by kernel_rfl) ⟨is_st, is_st, is_st, is_st, is_st, is_st, is_st, is_st, is_st, is_st, trivial⟩ ⟨?_, ?_, ?_, ?_, ?_, ?_, ?_, ?_, ?_, ?_, trivial⟩ rfl ?_
      · intro y w2 hG hD K hK
        simp only [fillL, Act.put, List.setIfInBounds_toArray, List.set_cons_zero, List.set_cons_succ, List.getD_cons_zero, List.getD_cons_succ, Is] at hK ⊢
        refine ite_yes (by rfl) ?_
        go_simp
        exact hK _ _ _ rfl (Grew.refl _) rfl
      · intro y w2 hG hD K hK
        simp only [depsH, List.getD_cons_zero, List.getD_cons_succ, Is, and_true] at hD
        have h0 := hD
        clear hD
        simp only [fillL, Act.put, List.setIfInBounds_toArray, List.set_cons_zero, List.set_cons_succ, List.getD_cons_zero, List.getD_cons_succ, Is] at hK ⊢
        rw [h0] at hK ⊢
        clear h0
        refine ite_yes (by rfl) ?_
        go_simp
        refine (sum_any w2 _ ss (HS.out.grew hG) hsl hss).mono ?_
        rintro r w3 ⟨rfl, rfl⟩
        exact hK _ _ _ rfl (Grew.refl _) rfl
      · intro y w2 hG hD K hK
        simp only [fillL, Act.put, List.setIfInBounds_toArray, List.set_cons_zero, List.set_cons_succ, List.getD_cons_zero, List.getD_cons_succ, Is] at hK ⊢
        refine ite_yes (by rfl) ?_
        go_simp
        exact hK _ _ _ rfl (Grew.refl _) rfl
      · intro y w2 hG hD K hK
        simp only [depsH, List.getD_cons_zero, List.getD_cons_succ, Is, and_true] at hD
        have h2 := hD
        clear hD
        simp only [fillL, Act.put, List.setIfInBounds_toArray, List.set_cons_zero, List.set_cons_succ, List.getD_cons_zero, List.getD_cons_succ, Is] at hK ⊢
        rw [h2] at hK ⊢
        clear h2
        refine ite_yes (by rfl) ?_
        go_simp
        exact hK _ _ _ rfl (Grew.refl _) rfl
      · intro y w2 hG hD K hK
        simp only [depsH, List.getD_cons_zero, List.getD_cons_succ, Is, and_true] at hD
        have h3 := hD
        clear hD
        simp only [fillL, Act.put, List.setIfInBounds_toArray, List.set_cons_zero, List.set_cons_succ, List.getD_cons_zero, List.getD_cons_succ, Is] at hK ⊢
        rw [h3] at hK ⊢
        clear h3
        refine ite_yes (by rfl) ?_
        go_simp
        exact hK _ _ _ rfl (Grew.refl _) rfl
      · intro y w2 hG hD K hK
        simp only [depsH, List.getD_cons_zero, List.getD_cons_succ, Is, and_true] at hD
        have h4 := hD
        clear hD
        have dc2 := hG.cell c2
        simp only [fillL, Act.put, List.setIfInBounds_toArray, List.set_cons_zero, List.set_cons_succ, List.getD_cons_zero, List.getD_cons_succ, Is] at hK ⊢
        rw [h4] at hK ⊢
        clear h4
        refine ite_yes (by rfl) ?_
        go_simp
        exact hK _ _ _ rfl (Grew.refl _) rfl
      · intro y w2 hG hD K hK
        simp only [fillL, Act.put, List.setIfInBounds_toArray, List.set_cons_zero, List.set_cons_succ, List.getD_cons_zero, List.getD_cons_succ, Is] at hK ⊢
        refine ite_yes (by rfl) ?_
        go_simp
        exact hK _ _ _ rfl (Grew.refl _) rfl
      · intro y w2 hG hD K hK
        simp only [depsH, List.getD_cons_zero, List.getD_cons_succ, Is, and_true] at hD
        have h6 := hD
        clear hD
        simp only [fillL, Act.put, List.setIfInBounds_toArray, List.set_cons_zero, List.set_cons_succ, List.getD_cons_zero, List.getD_cons_succ, Is] at hK ⊢
        rw [h6] at hK ⊢
        clear h6
        refine ite_yes (by rfl) ?_
        go_simp
        refine (len_any (HB.out.grew hG)).mono ?_
        rintro r w3 ⟨rfl, rfl⟩
        exact hK _ _ _ rfl (Grew.refl _) rfl
      · intro y w2 hG hD K hK
        simp only [depsH, List.getD_cons_zero, List.getD_cons_succ, Is, and_true] at hD
        have h5 := hD.1
        have h7 := hD.2
        clear hD
        simp only [fillL, Act.put, List.setIfInBounds_toArray, List.set_cons_zero, List.set_cons_succ, List.getD_cons_zero, List.getD_cons_succ, Is] at hK ⊢
        rw [h5, h7] at hK ⊢
        clear h5 h7
        refine ite_yes (by rfl) ?_
        go_simp
        exact hK _ _ _ rfl (Grew.refl _) rfl
      · intro y w2 hG hD K hK
        simp only [depsH, List.getD_cons_zero, List.getD_cons_succ, Is, and_true] at hD
        have h1 := hD.1
        have h8 := hD.2
        clear hD
        simp only [fillL, Act.put, List.setIfInBounds_toArray, List.set_cons_zero, List.set_cons_succ, List.getD_cons_zero, List.getD_cons_succ, Is] at hK ⊢
        rw [h1, h8] at hK ⊢
        clear h1 h8
        refine ite_yes (by rfl) ?_
        go_simp
        exact hK _ _ _ rfl (Grew.refl _) rfl
      · intro y w2 hG hF
        simp only [factsH, Is, and_true, Nat.reduceAdd] at hF
        have h0 := hF.1
        have h1 := hF.2.1
        have h2 := hF.2.2.1
        have h3 := hF.2.2.2.1
        have h4 := hF.2.2.2.2.1
        have h5 := hF.2.2.2.2.2.1
        have h6 := hF.2.2.2.2.2.2.1
        have h7 := hF.2.2.2.2.2.2.2.1
        have h8 := hF.2.2.2.2.2.2.2.2.1
        have h9 := hF.2.2.2.2.2.2.2.2.2
        clear hF
        simp only [fillL, Act.put, List.setIfInBounds_toArray, List.set_cons_zero, List.set_cons_succ, List.getD_cons_zero, List.getD_cons_succ, Is]
        rw [h0, h1, h2, h3, h4, h5, h6, h7, h8, h9]
        clear h0 h1 h2 h3 h4 h5 h6 h7 h8 h9
        clear c0 c1 c2 c3 hmm hdec
        have h5 := HB.out.grew hG
        have H5 := Lib.hid h5
        have HG := Lib.hid hG
        clear h5 hG
        go_wp2_with fail
        refine (failT s 5 H5.out).mono ?_
        rintro r w5 ⟨rfl, ht⟩
        have HT := Lib.hid (TurnB.after HG.out ht)
        clear ht
        go_wp2
        refine bodyPost_ret (results_none rfl _ _ _) rfl ?_
        exact ⟨rfl, by rw [HF.out]; exact HT.out⟩
  · have HF : Hid (putS most (bytesS ss) s = s) := by
      show _ = _
      obtain ⟨l, e⟩ := s
      unfold putS putL putE
      rw [if_neg (fun h => he h.1), if_neg (fun h => he h.1)]
    have hne : (s.2 != 0) = true := by simpa using he
    go_wp2
    refine bodyPost_ret (results_none rfl _ _ _) rfl ?_
    exact ⟨rfl, by rw [HF.out]; exact TurnB.refl HB.out⟩
end Go.Proofs.Ytajpbclcfjljnaa

/-
  The calls that the laws make: does, own, fine; a live buffer, alone or beside another.
-/
namespace Go.Proofs.Ytajpbclcfjljnaa
open Go Go.ChangeShapes Go.WideShapes Go.ChangeAt Go.RowKit Go.Joins
set_option linter.unusedVariables false
set_option linter.unusedSimpArgs false
structure DoV where
  kind : Int
  w : Int
  n : Int
  u : Int
  s : ByteArray
abbrev DoV.cells (d : DoV) : List Value := [.int .i64 d.kind, .int .i64 d.w, .int .i64 d.n, .int .u64 d.u, .string d.s]
abbrev doV (d : DoV) : Value := .agg #[.int .i64 d.kind, .int .i64 d.w, .int .i64 d.n, .int .u64 d.u, .string d.s]
def DoV.ok (d : DoV) : Prop := 0 ≤ d.u ∧ d.u ≤ 18446744073709551615 ∧ d.s.size ≤ 9223372036854775807
def short40 (s : ByteArray) : ByteArray := s.extract 0 (min s.size 40)
theorem short40_size (s : ByteArray) : (short40 s).size ≤ 40 := by unfold short40; rw [ByteArray.size_extract]; omega
def letterX : ByteArray := ⟨#[120]⟩
def doS (most : Int) (d : DoV) (s : St) : St :=
  if d.kind % 5 = 0 then alignS most d.w s else if d.kind % 5 = 1 then numS most d.w d.u s else if d.kind % 5 = 2 then putS most (bytesS [short40 d.s]) s
  else if d.kind % 5 = 3 then cutS d.n s else putS most (bytesS [short40 d.s, letterX, short40 d.s]) s
theorem strs_new (w : World) (ss : List ByteArray) (t : TypeId) : StrsAt (w.alloc (.cells (ss.map Value.string).toArray t)) (.slice (some ⟨w.heap.size, 0, none⟩) ss.length ss.length) ss := by
  refine ⟨_, _, rfl, fun i s hs => ⟨_, _, rfl, ?_⟩⟩
  rw [cell_of_row _ _ _ _ _ _ (heap_alloc_new _ _), Nat.zero_add]
  simp [hs]
theorem BufAt.lt {B : Nat} {w : World} {p : Nat} {o : Option Nat} {l : List UInt8} {most e : Int} (h : BufAt B w p o l most e) : ∀ k, Own2 p o k → k < w.heap.size := by
  obtain ⟨_, v, h1, h2, h3, _⟩ := h
  intro k hk
  rcases hk with rfl | hk
  · exact (Array.getElem?_eq_some_iff.1 h1).1
  · exact (World.ownsRow.lt h2 k (by rw [h3, ← hk])).2
theorem BufAt.ge {B : Nat} {w : World} {p : Nat} {o : Option Nat} {l : List UInt8} {most e : Int} (h : BufAt B w p o l most e) : ∀ k, Own2 p o k → B ≤ k := by
  obtain ⟨h0, v, h1, h2, h3, _⟩ := h
  intro k hk
  rcases hk with rfl | hk
  · exact h0
  · exact (World.ownsRow.lt h2 k (by rw [h3, ← hk])).1
theorem hs3 {a : ByteArray} (h : a.size ≤ 40) : sizeS [a, letterX, a] ≤ 1073741824 := by
  have e : letterX.size = 1 := rfl
  simp [sizeS, e]; omega
theorem textNew {B : Nat} {w : World} {p : Nat} {o : Option Nat} {most : Int} (s : St) (ss : List ByteArray) (h : BufAt B w p o s.1 most s.2) (hB : B ≤ w.heap.size) (hl : (s.1.length : Int) ≤ most) (hm1 : most ≤ 1048576)
    (hsl : ss.length ≤ 1048576) (hss : sizeS ss ≤ 1073741824) :
    Calls Try.prog 18 #[bptr p, .slice (some ⟨w.heap.size, 0, none⟩) ss.length ss.length] (w.alloc (.cells (ss.map Value.string).toArray 9)) fun r w' => r = .returned (.tuple #[]) ∧ TurnB B w w' p o most (putS most (bytesS ss) s) := by
  have hg := (Grew.refl w).alloc (.cells (ss.map Value.string).toArray 9)
  refine (text_any s _ ss (h.grew hg) (Nat.le_trans hB hg.size) hl hm1 (strs_new w ss _) hsl hss ?_).mono fun r w' ⟨hr, ht⟩ => ⟨hr, ht.after hg⟩
  intro ad n c he hk
  injection he with e1 _ _
  injection e1 with e1
  subst e1
  exact absurd (h.lt _ hk) (Nat.lt_irrefl _)
theorem textNew1 {B : Nat} {w : World} {p : Nat} {o : Option Nat} {most : Int} (s : St) (x : ByteArray) (k : Nat) (hk : k = w.heap.size) (h : BufAt B w p o s.1 most s.2) (hB : B ≤ w.heap.size) (hl : (s.1.length : Int) ≤ most) (hm1 : most ≤ 1048576)
    (hss : sizeS [x] ≤ 1073741824) :
    Calls Try.prog 18 #[bptr p, .slice (some ⟨k, 0, none⟩) 1 1] (w.alloc (.cells #[.string x] 9)) fun r w' => r = .returned (.tuple #[]) ∧ TurnB B w w' p o most (putS most (bytesS [x]) s) := by
  subst hk
  exact textNew s [x] h hB hl hm1 (by simp) hss
theorem textNew2 {B : Nat} {w : World} {p : Nat} {o : Option Nat} {most : Int} (s : St) (x y : ByteArray) (k : Nat) (hk : k = w.heap.size) (h : BufAt B w p o s.1 most s.2) (hB : B ≤ w.heap.size) (hl : (s.1.length : Int) ≤ most) (hm1 : most ≤ 1048576)
    (hss : sizeS [x, y] ≤ 1073741824) :
    Calls Try.prog 18 #[bptr p, .slice (some ⟨k, 0, none⟩) 2 2] (w.alloc (.cells #[.string x, .string y] 9)) fun r w' => r = .returned (.tuple #[]) ∧ TurnB B w w' p o most (putS most (bytesS [x, y]) s) := by
  subst hk
  exact textNew s [x, y] h hB hl hm1 (by simp) hss
theorem textNew3 {B : Nat} {w : World} {p : Nat} {o : Option Nat} {most : Int} (s : St) (x y z : ByteArray) (k : Nat) (hk : k = w.heap.size) (h : BufAt B w p o s.1 most s.2) (hB : B ≤ w.heap.size) (hl : (s.1.length : Int) ≤ most) (hm1 : most ≤ 1048576)
    (hss : sizeS [x, y, z] ≤ 1073741824) :
    Calls Try.prog 18 #[bptr p, .slice (some ⟨k, 0, none⟩) 3 3] (w.alloc (.cells #[.string x, .string y, .string z] 9)) fun r w' => r = .returned (.tuple #[]) ∧ TurnB B w w' p o most (putS most (bytesS [x, y, z]) s) := by
  subst hk
  exact textNew s [x, y, z] h hB hl hm1 (by simp) hss
theorem doS_le {most : Int} {d : DoV} {s : St} (h : (s.1.length : Int) ≤ most) : ((doS most d s).1.length : Int) ≤ most := by
  unfold doS
  repeat' split
  · exact alignS_le h
  · exact numS_le h
  · exact putS_le h
  · exact cutS_le h
  · exact putS_le h
def Live (w0 w : World) (p : Nat) (most : Int) (s : St) : Prop := ∃ o, BufAt w0.heap.size w p o s.1 most s.2 ∧ Below w0.heap.size w0 w ∧ (s.1.length : Int) ≤ most ∧ most ≤ 1048576
theorem Live.grew {w0 w w' : World} {p : Nat} {most : Int} {s : St} (h : Live w0 w p most s) (hg : Grew w w') : Live w0 w' p most s := by
  obtain ⟨o, h1, h2, h3, h4⟩ := h
  exact ⟨o, h1.grew hg, Below.trans h2 (Below.mono hg h2.size), h3, h4⟩
theorem Live.turn {w0 w w' : World} {p : Nat} {o : Option Nat} {most : Int} {s s' : St} (h : BufAt w0.heap.size w p o s.1 most s.2) (hb : Below w0.heap.size w0 w) (ht : TurnB w0.heap.size w w' p o most s') (hl : (s'.1.length : Int) ≤ most) (hm : most ≤ 1048576) : Live w0 w' p most s' := by
  obtain ⟨o', h1, h2, h3⟩ := ht
  exact ⟨o', h1, Below.trans hb (h3.below hb.size (h.ge)), hl, hm⟩
theorem Live.new {w0 w w' : World} {p : Nat} {most : Int} (hb : Below w0.heap.size w0 w) (h : BufAt w.heap.size w' p none [] most 0) (hg : Grew w w') (hm0 : 0 ≤ most) (hm : most ≤ 1048576) : Live w0 w' p most ([], 0) := by
  obtain ⟨h1, v, h2, h3, h4, h5⟩ := h
  exact ⟨none, ⟨Nat.le_trans hb.size h1, v, h2, own_base h3 hb.size, h4, h5⟩, Below.trans hb (Below.mono hg hb.size), by simpa using hm0, hm⟩
section
variable {w0 w : World} {p : Nat} {most : Int} {s : St}
theorem alignL (x : Int) (h : Live w0 w p most s) : Calls Try.prog 29 #[bptr p, .int .i64 x] w fun r w' => r = .returned (.tuple #[]) ∧ Live w0 w' p most (alignS most x s) := by
  obtain ⟨o, h1, h2, h3, h4⟩ := h
  exact (align_any s x h1 h2.size h3 h4).mono fun r w' ⟨hr, ht⟩ => ⟨hr, Live.turn h1 h2 ht (alignS_le h3) h4⟩
theorem numL (x u : Int) (h0 : 0 ≤ u) (hu : u ≤ 18446744073709551615) (h : Live w0 w p most s) : Calls Try.prog 31 #[bptr p, .int .i64 x, .int .u64 u] w fun r w' => r = .returned (.tuple #[]) ∧ Live w0 w' p most (numS most x u s) := by
  obtain ⟨o, h1, h2, h3, h4⟩ := h
  exact (num_any s x u h1 h2.size h3 h4 h0 hu).mono fun r w' ⟨hr, ht⟩ => ⟨hr, Live.turn h1 h2 ht (numS_le h3) h4⟩
theorem textL1 (x : ByteArray) (k : Nat) (hk : k = w.heap.size) (hss : sizeS [x] ≤ 1073741824) (h : Live w0 w p most s) : Calls Try.prog 18 #[bptr p, .slice (some ⟨k, 0, none⟩) 1 1] (w.alloc (.cells #[.string x] 9)) fun r w' => r = .returned (.tuple #[]) ∧ Live w0 w' p most (putS most (bytesS [x]) s) := by
  obtain ⟨o, h1, h2, h3, h4⟩ := h
  exact (textNew1 s x k hk h1 h2.size h3 h4 hss).mono fun r w' ⟨hr, ht⟩ => ⟨hr, Live.turn h1 h2 ht (putS_le h3) h4⟩
theorem textL2 (x y : ByteArray) (k : Nat) (hk : k = w.heap.size) (hss : sizeS [x, y] ≤ 1073741824) (h : Live w0 w p most s) : Calls Try.prog 18 #[bptr p, .slice (some ⟨k, 0, none⟩) 2 2] (w.alloc (.cells #[.string x, .string y] 9)) fun r w' => r = .returned (.tuple #[]) ∧ Live w0 w' p most (putS most (bytesS [x, y]) s) := by
  obtain ⟨o, h1, h2, h3, h4⟩ := h
  exact (textNew2 s x y k hk h1 h2.size h3 h4 hss).mono fun r w' ⟨hr, ht⟩ => ⟨hr, Live.turn h1 h2 ht (putS_le h3) h4⟩
theorem textL (ss : List ByteArray) (hsl : ss.length ≤ 1048576) (hss : sizeS ss ≤ 1073741824) (h : Live w0 w p most s) : Calls Try.prog 18 #[bptr p, .slice (some ⟨w.heap.size, 0, none⟩) ss.length ss.length] (w.alloc (.cells (ss.map Value.string).toArray 9)) fun r w' => r = .returned (.tuple #[]) ∧ Live w0 w' p most (putS most (bytesS ss) s) := by
  obtain ⟨o, h1, h2, h3, h4⟩ := h
  exact (textNew s ss h1 h2.size h3 h4 hsl hss).mono fun r w' ⟨hr, ht⟩ => ⟨hr, Live.turn h1 h2 ht (putS_le h3) h4⟩
theorem lenL (h : Live w0 w p most s) : Calls Try.prog 28 #[bptr p] w fun r w' => r = .returned (.int .i64 s.1.length) ∧ w' = w := by
  obtain ⟨o, h1, h2, h3, h4⟩ := h
  exact len_any h1
theorem errL (h : Live w0 w p most s) : Calls Try.prog 25 #[bptr p] w fun r w' => r = .returned (.int .i64 s.2) ∧ w' = w := by
  obtain ⟨o, h1, h2, h3, h4⟩ := h
  exact err_any h1
def outS (s : St) : List UInt8 := if s.2 = 0 then s.1 else []
theorem bytesB {B : Nat} {o : Option Nat} (h : BufAt B w p o s.1 most s.2) (h3 : (s.1.length : Int) ≤ most) (h4 : most ≤ 1048576) : Calls Try.prog 13 #[bptr p] w fun r w' => ∃ v', r = .returned (.tuple #[v', .int .i64 s.2]) ∧ BytesAt w' v' (outS s) ∧ w'.ownsRow w.heap.size 5 1 v' (outS s).length (Lib.byteCells (outS s)) ∧ Grew w w' :=
  (bytes_any h (by omega)).mono fun r w' ⟨v', hr, ho, hg⟩ => ⟨v', hr, BytesAt.of_own ho, ho, hg⟩
theorem bytesL (h : Live w0 w p most s) : Calls Try.prog 13 #[bptr p] w fun r w' => ∃ v', r = .returned (.tuple #[v', .int .i64 s.2]) ∧ BytesAt w' v' (outS s) ∧ w'.ownsRow w.heap.size 5 1 v' (outS s).length (Lib.byteCells (outS s)) ∧ Grew w w' := by
  obtain ⟨o, h1, h2, h3, h4⟩ := h
  exact bytesB h1 h3 h4
theorem newL (m : Int) (hb : Below w0.heap.size w0 w) : Calls Try.prog 17 #[.int .i64 m] w fun r w' => r = .returned (bptr w.heap.size) ∧ Live w0 w' w.heap.size (roomOf m) ([], 0) ∧ Grew w w' ∧ w.heap.size < w'.heap.size :=
  (new_any m w).mono fun r w' ⟨hr, h1, h2, h3⟩ => ⟨hr, Live.new hb h1 h2 (by unfold roomOf; omega) (by unfold roomOf; omega), h2, h3⟩
theorem Live.below (h : Live w0 w p most s) : Below w0.heap.size w0 w := h.choose_spec.2.1
end
end Go.Proofs.Ytajpbclcfjljnaa

/-
  Package le: Load.
-/
namespace Go.Proofs.Ytajpbclcfjljnaa
open Go Go.ChangeShapes Go.WideShapes Go.ChangeAt Go.RowKit Go.Joins
set_option linter.unusedVariables false
set_option linter.unusedSimpArgs false
def leF : List UInt8 → Int
  | [] => 0
  | c :: r => (c.toNat : Int) + 256 * leF r
theorem leF_snoc (c : UInt8) : ∀ l : List UInt8, leF (l ++ [c]) = leF l + c.toNat * 256 ^ l.length
  | [] => by simp [leF]
  | d :: r => by
    have ih := leF_snoc c r
    simp only [List.cons_append, leF, List.length_cons, ih]
    rw [Int.mul_add, ← Int.mul_assoc, Int.mul_comm 256 (c.toNat : Int), Int.mul_assoc, Int.pow_succ, Int.mul_comm 256 ((256 : Int) ^ r.length)]
    omega
theorem leF_lo : ∀ l : List UInt8, 0 ≤ leF l
  | [] => by simp [leF]
  | d :: r => by have := leF_lo r; simp only [leF]; omega
theorem leF_hi : ∀ l : List UInt8, leF l < 256 ^ l.length
  | [] => by simp [leF]
  | d :: r => by
    have := leF_hi r
    have hd := d.toNat_lt
    simp only [leF, List.length_cons]
    rw [Int.pow_succ]
    omega
theorem leF_take (l : List UInt8) (k : Nat) (h : k < l.length) : leF (l.take (k + 1)) = leF (l.take k) + l[k].toNat * 256 ^ k := by
  rw [List.take_succ_eq_append_getElem h, leF_snoc, List.length_take, Nat.min_eq_left (by omega)]
theorem top_lem (b k : Nat) (hk : k < 8) (hb : b < 256) : b * 256 ^ k + 256 ^ k ≤ 18446744073709551616 := by
  have h1 : (b + 1) * 256 ^ k ≤ 256 * 256 ^ k := Nat.mul_le_mul_right _ hb
  have h2 : 256 * 256 ^ k = 256 ^ (k + 1) := by rw [Nat.pow_succ, Nat.mul_comm]
  have h3 : 256 ^ (k + 1) ≤ 256 ^ 8 := Nat.pow_le_pow_right (by decide) hk
  rw [Nat.add_mul] at h1
  have : (256 : Nat) ^ 8 = 18446744073709551616 := by decide
  omega
theorem or_lem (u : Int) (b k : Nat) (hk : k < 8) (u0 : 0 ≤ u) (hu : u < 256 ^ k) (hb : b < 256) : bits .or .u64 u ((b : Int) * 256 ^ k) = u + b * 256 ^ k := by
  obtain ⟨n, rfl⟩ := Int.eq_ofNat_of_zero_le u0
  have hx : ((b : Int) * 256 ^ k) = ((b * 256 ^ k : Nat) : Int) := by simp
  have hn : n < 256 ^ k := by have : ((n : Nat) : Int) < ((256 ^ k : Nat) : Int) := by simpa using hu
                              exact Int.ofNat_lt.1 this
  have ht := top_lem b k hk hb
  have e : (256 : Nat) ^ k = 2 ^ (8 * k) := by rw [Nat.pow_mul]
  rw [hx]
  unfold bits
  show IntKind.u64.wrap (((BitVec.ofInt 64 (n : Int)) ||| (BitVec.ofInt 64 ((b * 256 ^ k : Nat) : Int))).toNat : Int) = _
  rw [BitVec.ofInt_natCast, BitVec.ofInt_natCast, BitVec.toNat_or, BitVec.toNat_ofNat, BitVec.toNat_ofNat, Nat.mod_eq_of_lt (by omega), Nat.mod_eq_of_lt (by omega), Nat.or_comm]
  rw [show b * 256 ^ k = 2 ^ (8 * k) * b by rw [e, Nat.mul_comm], ← Nat.two_pow_add_eq_or_of_lt (by rw [← e]; exact hn)]
  rw [← e, Nat.mul_comm (256 ^ k) b]
  simp [IntKind.wrap, IntKind.bits, IntKind.signed]
  have : ((b * 256 ^ k + n : Nat) : Int) < 18446744073709551616 := by omega
  simp at this
  rw [Int.emod_eq_of_lt (by have : (0:Int) ≤ ((b * 256 ^ k + n : Nat) : Int) := Int.natCast_nonneg _
                            simpa using this) this]
  omega
theorem shl_lem (b k : Nat) (hk : k < 8) (hb : b < 256) : IntKind.u64.wrap ((b : Int) * 2 ^ (8 * (k : Int)).toNat) = (b : Int) * 256 ^ k := by
  have ht := top_lem b k hk hb
  rw [show (8 * (k : Int)).toNat = 8 * k by omega, Int.pow_mul]
  have : ((b * 256 ^ k : Nat) : Int) < 18446744073709551616 := by have := Nat.pos_of_ne_zero (show (256 : Nat) ^ k ≠ 0 by simp); omega
  simp at this
  simp [IntKind.wrap, IntKind.bits, IntKind.signed]
  exact Int.emod_eq_of_lt (by have : (0:Int) ≤ ((b * 256 ^ k : Nat) : Int) := Int.natCast_nonneg _
                              simpa using this) this
theorem w8_lem (k : Nat) (hk : k < 8) : IntKind.i64.wrap (8 * (k : Int)) = 8 * k := by
  simp [IntKind.wrap, IntKind.bits, IntKind.signed]; omega
theorem wb_lem (b : Nat) (hb : b < 256) : IntKind.u64.wrap (b : Int) = b := by
  simp [IntKind.wrap, IntKind.bits, IntKind.signed]; omega
set_option maxRecDepth 100000 in
set_option maxHeartbeats 1000000 in
theorem load1_any {w : World} (sv : Value) (l : List UInt8) (hb : BytesAt w sv l) (hlen : l.length ≤ 8) (pa : Nat) (hp : w.heap[pa]? = some (.cells #[.int .u64 0] 28)) (hap : ∀ ad n c, sv = .slice (some ad) n c → ad.block ≠ pa) :
    Calls Try.prog 42 #[sv, .pointer (some ⟨pa, 0, none⟩)] w fun r w' => r = .returned (.int .i64 0) ∧ w'.heap[pa]? = some (.cells #[.int .u64 (leF l)] 28) ∧ Moved (fun b => b = pa) w w' := by
  have HB0 := Lib.hid hb
  have HA := Lib.hid hap
  obtain ⟨a, c, rfl, hcell⟩ := hb
  clear hap
  go_enter Try.func42, Try.ntmps42
  go_wp2_with fail
  go_loopw [4, 5, 8] (fun _ _ i wr => ∃ k : Nat, k ≤ l.length ∧ i = .int .i64 k ∧ Hid (wr.heap[pa]? = some (.cells #[.int .u64 (leF (l.take k))] 28) ∧ Moved (fun b => b = pa) w wr)) (fun _ _ i _ => l.length - (intOf i).toNat)
  case atStart => exact ⟨0, Nat.zero_le _, rfl, hp, Moved.refl _ _⟩
  case round =>
    obtain ⟨k, hk, rfl, HW⟩ := hrel
    by_cases hlt : k < l.length
    · obtain ⟨bl, off, rfl, q0⟩ := hcell.2.2 k l[k] (List.getElem?_eq_getElem hlt)
      have d0 := HW.out.2.cell q0 (HA.out ⟨bl, off, none⟩ _ _ rfl)
      have HSN := Lib.hid (leF_take l k hlt)
      have hhi := leF_hi (l.take k)
      have hlo := leF_lo (l.take k)
      have hrow := HW.out.1
      generalize leF (l.take k) = u at *
      generalize l[k] = b at *
      have g0 : wr.cell? ⟨pa, 0, none⟩ = some (.int .u64 u) := by simp [World.cell?, hrow]
      have f0 := row_frozen hrow 0
      have HROW := Lib.hid hrow
      have hk8 : k < 8 := by omega
      have hb : b.toNat < 256 := b.toNat_lt
      rw [List.length_take, Nat.min_eq_left (Nat.le_of_lt hlt)] at hhi
      clear q0 hrow
      go_wp2_with fail
      refine wp_region_last Grew [[], [], [1], [], [3], [2, 4], [0, 5], [6]] [[(14, 1), (15, 2), (16, 3), (17, 4), (18, 5)], [(13, 0), (16, 3), (17, 4), (18, 5), (19, 6)], [(13, 0), (14, 1), (16, 3), (17, 4), (19, 6)], [(13, 0), (14, 1), (15, 2), (18, 5), (19, 6)], [(13, 0), (14, 1), (15, 2), (16, 3), (19, 6)], [(13, 0), (14, 1), (15, 2), (16, 3), (17, 4)], [(13, 0), (14, 1), (15, 2), (16, 3), (17, 4), (18, 5)], [(13, 0), (14, 1), (15, 2), (16, 3), (17, 4), (18, 5), (19, 6)]]
        [Is (.int .u64 u), Is (.int .u8 b.toNat), Is (.int .u64 b.toNat), Is (.int .i64 k), Is (.int .i64 (8 * k : Int)), Is (.int .u64 (b.toNat * 256 ^ k : Int)), Is (.int .u64 (u + b.toNat * 256 ^ k : Int))]
        (by kernel_rfl) Grew.trans Grew.refl (Grew.refl _).drew (by kernel_rfl) ⟨is_st, is_st, is_st, is_st, is_st, is_st, is_st, trivial⟩ rfl ⟨?_, ?_, ?_, ?_, ?_, ?_, ?_, trivial⟩ ?_ rfl
      · intro y w2 hG hD K hK
        have dg0 := hG.cell g0
        simp only [fillL, Act.put, List.setIfInBounds_toArray, List.set_cons_zero, List.set_cons_succ, List.getD_cons_zero, List.getD_cons_succ, Is] at hK ⊢
        refine ite_yes (by rfl) ?_
        go_simp
        exact hK _ _ _ rfl (Grew.refl _) rfl
      · intro y w2 hG hD K hK
        simp only [fillL, Act.put, List.setIfInBounds_toArray, List.set_cons_zero, List.set_cons_succ, List.getD_cons_zero, List.getD_cons_succ, Is] at hK ⊢
        refine ite_yes (by rfl) ?_
        go_simp
        exact hK _ _ _ rfl (Grew.refl _) rfl
      · intro y w2 hG hD K hK
        simp only [depsH, List.getD_cons_zero, List.getD_cons_succ, Is, and_true] at hD
        have h1 := hD
        clear hD
        simp only [fillL, Act.put, List.setIfInBounds_toArray, List.set_cons_zero, List.set_cons_succ, List.getD_cons_zero, List.getD_cons_succ, Is] at hK ⊢
        rw [h1] at hK ⊢
        clear h1
        refine ite_yes (by rfl) ?_
        go_simp
        exact hK _ _ _ rfl (Grew.refl _) (congrArg (Value.int _) (wb_lem b.toNat hb))
      · intro y w2 hG hD K hK
        simp only [fillL, Act.put, List.setIfInBounds_toArray, List.set_cons_zero, List.set_cons_succ, List.getD_cons_zero, List.getD_cons_succ, Is] at hK ⊢
        refine ite_yes (by rfl) ?_
        go_simp
        exact hK _ _ _ rfl (Grew.refl _) rfl
      · intro y w2 hG hD K hK
        simp only [depsH, List.getD_cons_zero, List.getD_cons_succ, Is, and_true] at hD
        have h3 := hD
        clear hD
        simp only [fillL, Act.put, List.setIfInBounds_toArray, List.set_cons_zero, List.set_cons_succ, List.getD_cons_zero, List.getD_cons_succ, Is] at hK ⊢
        rw [h3] at hK ⊢
        clear h3
        refine ite_yes (by rfl) ?_
        go_simp
        exact hK _ _ _ rfl (Grew.refl _) (congrArg (Value.int _) (w8_lem k hk8))
      · intro y w2 hG hD K hK
        simp only [depsH, List.getD_cons_zero, List.getD_cons_succ, Is, and_true] at hD
        have h2 := hD.1
        have h4 := hD.2
        clear hD
        simp only [fillL, Act.put, List.setIfInBounds_toArray, List.set_cons_zero, List.set_cons_succ, List.getD_cons_zero, List.getD_cons_succ, Is] at hK ⊢
        rw [h2, h4] at hK ⊢
        clear h2 h4
        refine ite_yes (by rfl) ?_
        go_simp
        exact hK _ _ _ rfl (Grew.refl _) (congrArg (Value.int _) (shl_lem b.toNat k hk8 hb))
      · intro y w2 hG hD K hK
        simp only [depsH, List.getD_cons_zero, List.getD_cons_succ, Is, and_true] at hD
        have h0 := hD.1
        have h5 := hD.2
        clear hD
        simp only [fillL, Act.put, List.setIfInBounds_toArray, List.set_cons_zero, List.set_cons_succ, List.getD_cons_zero, List.getD_cons_succ, Is] at hK ⊢
        rw [h0, h5] at hK ⊢
        clear h0 h5
        refine ite_yes (by rfl) ?_
        go_simp
        exact hK _ _ _ rfl (Grew.refl _) (congrArg (Value.int _) (or_lem u b.toNat k hk8 hlo hhi hb))
      · intro y w2 hG hF K hK
        simp only [factsH, Is, and_true, Nat.reduceAdd] at hF
        have h0 := hF.1
        have h1 := hF.2.1
        have h2 := hF.2.2.1
        have h3 := hF.2.2.2.1
        have h4 := hF.2.2.2.2.1
        have h5 := hF.2.2.2.2.2.1
        have h6 := hF.2.2.2.2.2.2
        clear hF
        simp only [lastOf]
        simp only [fillL, Act.put, List.setIfInBounds_toArray, List.set_cons_zero, List.set_cons_succ, List.getD_cons_zero, List.getD_cons_succ, Is] at hK ⊢
        rw [h0, h1, h2, h3, h4, h5, h6]
        clear h0 h1 h2 h3 h4 h5 h6
        refine ite_yes (by rfl) ?_
        have dg0 := hG.cell g0
        have hr2 := hG.heap HROW.out
        have df0 := row_frozen hr2 0
        go_simp
        refine hK _ _ ?_
        have HR2 := Lib.hid hr2
        have HG2 := Lib.hid hG
        clear hr2 hG dg0 df0
        go_wp2
        go_roundw
        case rel =>
          refine ⟨k + 1, by omega, by go_num, ?_⟩
          show _ ∧ _
          rw [HSN.out]
          exact ⟨by have := heap_setCell_same w2 pa 0 _ _ (.int .u64 (u + b.toNat * 256 ^ k)) HR2.out; simpa using this, Moved.setCell (p := ⟨pa, 0, none⟩) (HW.out.2.trans' (Moved.of_grew HG2.out)) (fun _ => rfl) _⟩
        case measure => simp [intOf]; omega
    · have e : k = l.length := by omega
      have hw := HW.out
      rw [e, List.take_length] at hw
      have HF := Lib.hid hw
      clear hw HW
      go_wp2
      go_ret
      exact ⟨rfl, HF.out⟩
end Go.Proofs.Ytajpbclcfjljnaa
