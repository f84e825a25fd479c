/-
  The buffer's Text, with sum.
-/
import Derived.Test.YtaoflhddcbmacaaBufR
import Derived.Test.YtaoflhddcbmacaaBufAlign
namespace Go.Proofs.Ytaoflhddcbmacaa
open Go Go.ChangeShapes Go.WideShapes Go.ChangeAt Go.RowKit Go.Joins
set_option linter.unusedVariables false
set_option linter.unusedSimpArgs false

theorem sum_any (w : World) (lv : Value) (ss : List ByteArray) (hs : StrsAt w lv ss) (hsl : ss.length ≤ 1048576) (hss : sizeS ss ≤ 1073741824) :
    Calls Try.prog 57 #[lv] w fun r w' => r = .returned (.int .i64 (sizeS ss)) ∧ w' = w := by
  obtain ⟨a, c, rfl, hcell⟩ := hs.form
  have HC := Lib.hid hcell
  clear hs hcell
  go_enter Try.func57, Try.ntmps57
  go_wp2_with fail
  go_loopw [2, 4, 7] (fun t _ i wr => wr = w ∧ ∃ k : Nat, k ≤ ss.length ∧ i = .int .i64 k ∧ ∃ z : Nat, t = .int .i64 z ∧ Hid (z = sizeS (ss.take k))) (fun _ _ i _ => ss.length - (intOf i).toNat)
  case atStart => exact ⟨rfl, 0, Nat.zero_le _, rfl, 0, rfl, rfl⟩
  case round =>
    obtain ⟨rfl, k, hk, rfl, z, rfl, HZ⟩ := hrel
    have hz : z ≤ 1073741824 := by rw [HZ.out]; have := sizeS_take ss k; omega
    by_cases hlt : k < ss.length
    · obtain ⟨bl, off, rfl, hc⟩ := HC.out k ss[k] (List.getElem?_eq_getElem hlt)
      have hz2 : ss[k].size ≤ 1073741824 := by have := sizeS_snoc ss k hlt; have := sizeS_take ss (k + 1); omega
      have HN : Hid (z + ss[k].size = sizeS (ss.take (k + 1))) := by show _ = _; rw [sizeS_snoc ss k hlt, HZ.out]
      generalize ss[k] = sk at *
      go_wp2
      go_roundw
      case rel => exact ⟨trivial, k + 1, by omega, by go_num, z + sk.size, by go_num, HN⟩
      case measure => simp [intOf]; omega
    · have e : k = ss.length := by omega
      have HE : Hid (z = sizeS ss) := by show _ = _; rw [HZ.out, e, List.take_length]
      clear HZ e
      go_wp2
      go_ret
      exact ⟨by rw [← HE.out]; rfl, rfl⟩

/-- The buffer's Text. -/
theorem put_fit (most : Int) (l y : List UInt8) (hf : (l.length : Int) + y.length ≤ most) : putS most y (l, 0) = (l ++ y, 0) := by
  show (putL l y most 0, putE l y most 0) = _
  unfold putL putE
  have h1 : ((0 : Int) = 0 ∧ (y.length : Int) ≤ most - l.length) := ⟨rfl, by omega⟩
  have h2 : ¬ ((0 : Int) = 0 ∧ ¬ (y.length : Int) ≤ most - l.length) := fun h => h.2 (by omega)
  rw [if_pos h1, if_neg h2]
set_option maxRecDepth 100000 in
set_option maxHeartbeats 1000000 in
theorem text_any {B : Nat} {w : World} {p : Nat} {o : Option Nat} {most : Int} (s : St) (lv : Value) (ss : List ByteArray) (h : BufAt B w p o s.1 most s.2) (hB : B ≤ w.heap.size) (hl : (s.1.length : Int) ≤ most) (hm1 : most ≤ 1048576)
    (hs : StrsAt w lv ss) (hsl : ss.length ≤ 1048576) (hss : sizeS ss ≤ 1073741824) (hap : ∀ ad n c, lv = .slice (some ad) n c → ¬ Own2 p o ad.block) :
    Calls Try.prog 29 #[bptr p, lv] w fun r w' => r = .returned (.tuple #[]) ∧ TurnB B w w' p o most (putS most (bytesS ss) s) := by
  have HB := Lib.hid h
  have HS := Lib.hid hs
  obtain ⟨a, c, rfl, hcell⟩ := hs.form
  have HC := Lib.hid hcell
  have HA := Lib.hid hap
  have hb := h
  obtain ⟨_, v, h1, h2, _⟩ := hb
  obtain ⟨c0, c1, c2, c3⟩ := four_cells h1
  have hmm : IntKind.i64.wrap (most - (s.1.length : Int)) = most - (s.1.length : Int) := by rw [IntKind.wrap_i64]; omega
  clear h hs hcell h1 h2 hap
  go_enter Try.func29, Try.ntmps29
  go_wp2_with fail
  refine (err_any HB.out).mono ?_
  rintro r w' ⟨rfl, rfl⟩
  by_cases he : s.2 = 0
  · have HE := Lib.hid he
    rw [he] at c3 ⊢
    clear he
    by_cases hf : (sizeS ss : Int) ≤ most - s.1.length
    · have hdec : decide (most - (s.1.length : Int) < (sizeS ss : Int)) = false := by simp; omega
      have HSZ : Hid ((bytesS ss).length = sizeS ss) := bytesS_length ss
      go_wp2_with fail
      refine wp_region_tables Grew [[], [0], [], [2], [3], [4], [], [6], [5, 7], [1, 8]] [[(12, 2), (13, 3), (14, 4), (15, 5), (16, 6), (17, 7), (18, 8), (19, 9)], [(10, 0), (12, 2), (13, 3), (14, 4), (15, 5), (16, 6), (17, 7), (18, 8)], [(10, 0), (11, 1), (14, 4), (15, 5), (16, 6), (17, 7), (18, 8), (19, 9)], [(10, 0), (11, 1), (12, 2), (15, 5), (16, 6), (17, 7), (18, 8), (19, 9)], [(10, 0), (11, 1), (12, 2), (13, 3), (16, 6), (17, 7), (18, 8), (19, 9)], [(10, 0), (11, 1), (12, 2), (13, 3), (14, 4), (16, 6), (17, 7), (19, 9)], [(10, 0), (11, 1), (12, 2), (13, 3), (14, 4), (15, 5), (18, 8), (19, 9)], [(10, 0), (11, 1), (12, 2), (13, 3), (14, 4), (15, 5), (16, 6), (19, 9)], [(10, 0), (11, 1), (12, 2), (13, 3), (14, 4), (15, 5), (16, 6), (17, 7)], [(10, 0), (11, 1), (12, 2), (13, 3), (14, 4), (15, 5), (16, 6), (17, 7), (18, 8)]] [(10, 0), (11, 1), (12, 2), (13, 3), (14, 4), (15, 5), (16, 6), (17, 7), (18, 8), (19, 9)]
        [Is (.slice a ss.length c), Is (.int .i64 (sizeS ss : Int)), Is (bptr p), Is (bptr p), Is (.pointer (some ⟨p, 2, none⟩)), Is (.int .i64 most), Is (bptr p), Is (.int .i64 (s.1.length : Int)), Is (.int .i64 (most - (s.1.length : Int))), Is (.bool false)]
        (by kernel_rfl) Grew.trans Grew.refl (Grew.refl _).drew (by kernel_rfl) ⟨is_st, is_st, is_st, is_st, is_st, is_st, is_st, is_st, is_st, is_st, trivial⟩ ⟨?_, ?_, ?_, ?_, ?_, ?_, ?_, ?_, ?_, ?_, trivial⟩ rfl ?_
      · intro y w2 hG hD K hK
        simp only [fillL, Act.put, List.setIfInBounds_toArray, List.set_cons_zero, List.set_cons_succ, List.getD_cons_zero, List.getD_cons_succ, Is] at hK ⊢
        refine ite_yes (by rfl) ?_
        go_simp
        exact hK _ _ _ rfl (Grew.refl _) rfl
      · intro y w2 hG hD K hK
        simp only [depsH, List.getD_cons_zero, List.getD_cons_succ, Is, and_true] at hD
        have h0 := hD
        clear hD
        simp only [fillL, Act.put, List.setIfInBounds_toArray, List.set_cons_zero, List.set_cons_succ, List.getD_cons_zero, List.getD_cons_succ, Is] at hK ⊢
        rw [h0] at hK ⊢
        clear h0
        refine ite_yes (by rfl) ?_
        go_simp
        refine (sum_any w2 _ ss (HS.out.grew hG) hsl hss).mono ?_
        rintro r w3 ⟨rfl, rfl⟩
        exact hK _ _ _ rfl (Grew.refl _) rfl
      · intro y w2 hG hD K hK
        simp only [fillL, Act.put, List.setIfInBounds_toArray, List.set_cons_zero, List.set_cons_succ, List.getD_cons_zero, List.getD_cons_succ, Is] at hK ⊢
        refine ite_yes (by rfl) ?_
        go_simp
        exact hK _ _ _ rfl (Grew.refl _) rfl
      · intro y w2 hG hD K hK
        simp only [depsH, List.getD_cons_zero, List.getD_cons_succ, Is, and_true] at hD
        have h2 := hD
        clear hD
        simp only [fillL, Act.put, List.setIfInBounds_toArray, List.set_cons_zero, List.set_cons_succ, List.getD_cons_zero, List.getD_cons_succ, Is] at hK ⊢
        rw [h2] at hK ⊢
        clear h2
        refine ite_yes (by rfl) ?_
        go_simp
        exact hK _ _ _ rfl (Grew.refl _) rfl
      · intro y w2 hG hD K hK
        simp only [depsH, List.getD_cons_zero, List.getD_cons_succ, Is, and_true] at hD
        have h3 := hD
        clear hD
        simp only [fillL, Act.put, List.setIfInBounds_toArray, List.set_cons_zero, List.set_cons_succ, List.getD_cons_zero, List.getD_cons_succ, Is] at hK ⊢
        rw [h3] at hK ⊢
        clear h3
        refine ite_yes (by rfl) ?_
        go_simp
        exact hK _ _ _ rfl (Grew.refl _) rfl
      · intro y w2 hG hD K hK
        simp only [depsH, List.getD_cons_zero, List.getD_cons_succ, Is, and_true] at hD
        have h4 := hD
        clear hD
        have dc2 := hG.cell c2
        simp only [fillL, Act.put, List.setIfInBounds_toArray, List.set_cons_zero, List.set_cons_succ, List.getD_cons_zero, List.getD_cons_succ, Is] at hK ⊢
        rw [h4] at hK ⊢
        clear h4
        refine ite_yes (by rfl) ?_
        go_simp
        exact hK _ _ _ rfl (Grew.refl _) rfl
      · intro y w2 hG hD K hK
        simp only [fillL, Act.put, List.setIfInBounds_toArray, List.set_cons_zero, List.set_cons_succ, List.getD_cons_zero, List.getD_cons_succ, Is] at hK ⊢
        refine ite_yes (by rfl) ?_
        go_simp
        exact hK _ _ _ rfl (Grew.refl _) rfl
      · intro y w2 hG hD K hK
        simp only [depsH, List.getD_cons_zero, List.getD_cons_succ, Is, and_true] at hD
        have h6 := hD
        clear hD
        simp only [fillL, Act.put, List.setIfInBounds_toArray, List.set_cons_zero, List.set_cons_succ, List.getD_cons_zero, List.getD_cons_succ, Is] at hK ⊢
        rw [h6] at hK ⊢
        clear h6
        refine ite_yes (by rfl) ?_
        go_simp
        refine (len_any (HB.out.grew hG)).mono ?_
        rintro r w3 ⟨rfl, rfl⟩
        exact hK _ _ _ rfl (Grew.refl _) rfl
      · intro y w2 hG hD K hK
        simp only [depsH, List.getD_cons_zero, List.getD_cons_succ, Is, and_true] at hD
        have h5 := hD.1
        have h7 := hD.2
        clear hD
        simp only [fillL, Act.put, List.setIfInBounds_toArray, List.set_cons_zero, List.set_cons_succ, List.getD_cons_zero, List.getD_cons_succ, Is] at hK ⊢
        rw [h5, h7] at hK ⊢
        clear h5 h7
        refine ite_yes (by rfl) ?_
        go_simp
        exact hK _ _ _ rfl (Grew.refl _) rfl
      · intro y w2 hG hD K hK
        simp only [depsH, List.getD_cons_zero, List.getD_cons_succ, Is, and_true] at hD
        have h1 := hD.1
        have h8 := hD.2
        clear hD
        simp only [fillL, Act.put, List.setIfInBounds_toArray, List.set_cons_zero, List.set_cons_succ, List.getD_cons_zero, List.getD_cons_succ, Is] at hK ⊢
        rw [h1, h8] at hK ⊢
        clear h1 h8
        refine ite_yes (by rfl) ?_
        go_simp
        exact hK _ _ _ rfl (Grew.refl _) rfl
      · intro y w2 hG hF
        simp only [factsH, Is, and_true, Nat.reduceAdd] at hF
        have h0 := hF.1
        have h1 := hF.2.1
        have h2 := hF.2.2.1
        have h3 := hF.2.2.2.1
        have h4 := hF.2.2.2.2.1
        have h5 := hF.2.2.2.2.2.1
        have h6 := hF.2.2.2.2.2.2.1
        have h7 := hF.2.2.2.2.2.2.2.1
        have h8 := hF.2.2.2.2.2.2.2.2.1
        have h9 := hF.2.2.2.2.2.2.2.2.2
        clear hF
        simp only [fillL, Act.put, List.setIfInBounds_toArray, List.set_cons_zero, List.set_cons_succ, List.getD_cons_zero, List.getD_cons_succ, Is]
        rw [h0, h1, h2, h3, h4, h5, h6, h7, h8, h9]
        clear h0 h1 h2 h3 h4 h5 h6 h7 h8 h9
        clear c0 c1 c2 c3 hmm hdec
        go_wp2_with fail
        go_loopw [6, 26] (fun _ i wr => ∃ k : Nat, k ≤ ss.length ∧ i = .int .i64 k ∧ Hid (TurnB B w' wr p o most (s.1 ++ bytesS (ss.take k), 0))) (fun _ i _ => ss.length - (intOf i).toNat)
        case atStart =>
          refine ⟨0, Nat.zero_le _, rfl, ?_⟩
          show TurnB _ _ _ _ _ _ _
          refine TurnB.after hG (TurnB.refl ?_)
          have h5 := HB.out.grew hG
          rw [HE.out] at h5
          simpa [bytesS] using h5
        case round =>
          obtain ⟨k, hk, rfl, HW⟩ := hrel
          by_cases hlt : k < ss.length
          · obtain ⟨bl, off, rfl, hc0⟩ := HC.out k ss[k] (List.getElem?_eq_getElem hlt)
            have hc : wr.cell? ⟨bl, off + k, none⟩ = some (.string ss[k]) := by
              obtain ⟨o', _, _, hm⟩ := HW.out
              exact hm.cell hc0 (HA.out ⟨bl, off, none⟩ _ _ rfl)
            have hz2 : ss[k].size ≤ 1073741824 := by have := sizeS_snoc ss k hlt; have := sizeS_take ss (k + 1); omega
            obtain ⟨bv, w3, hr, hv, hg⟩ := bytes_of_str wr ss[k] (by omega)
            have hlen : (bytesS (ss.take k)).length + (ss[k].data.toList).length ≤ sizeS ss := by rw [bytesS_length]; have := sizeS_snoc ss k hlt; have := sizeS_take ss (k + 1); have e9 : (ss[k].data.toList).length = ss[k].size := rfl; omega
            have HL := Lib.hid hlen
            have HN : Hid (bytesS (ss.take (k + 1)) = bytesS (ss.take k) ++ ss[k].data.toList) := bytesS_snoc ss k hlt
            have HV := Lib.hid (And.intro hv hg)
            have hw3 := hg.size
            have hBr : B ≤ wr.heap.size := by obtain ⟨o', _, _, hm⟩ := HW.out; have := hm.size; omega
            clear hv hg hlen hc0
            generalize ss[k] = sk at *
            have hdo : Calls Try.prog 52 #[bptr p, bv] w3 fun r w'' => r = .returned (.tuple #[]) ∧ TurnB B w' w'' p o most (s.1 ++ bytesS (ss.take (k + 1)), 0) := by
              obtain ⟨o', k1, k2, k3⟩ := HW.out
              have hL := HL.out
              refine (putT (s.1 ++ bytesS (ss.take k), 0) (k1.grew HV.out.2) (by omega) (by simp; omega) hm1 HV.out.1 (by omega)).mono ?_
              rintro r w'' ⟨rfl, ht⟩
              rw [put_fit _ _ _ (by rw [List.length_append]; omega)] at ht
              obtain ⟨o2, t1, t2, t3⟩ := TurnB.after HV.out.2 ht
              exact ⟨rfl, o2, by rw [HN.out, ← List.append_assoc]; exact t1, k2.trans t2 k3.size, k3.own k2 t3⟩
            have HD := Lib.hid hdo
            have he38 : ∀ args w, (callFunc 52 args).run Try.prog w = .ok (.enter 52 args) w := enters_of Try.func52 (by kernel_rfl) rfl
            clear hdo HW HV
            go_wp2_with fail
            refine HD.out.mono ?_
            rintro r w4 ⟨rfl, ht⟩
            have HT := Lib.hid ht
            clear ht
            go_wp2
            go_roundw
            case rel => exact ⟨k + 1, by omega, by go_num, HT⟩
            case measure => simp [intOf]; omega
          · have e : k = ss.length := by omega
            have HF : Hid (TurnB B w' wr p o most (putS most (bytesS ss) s)) := by
              have h5 := HW.out
              rw [e, List.take_length] at h5
              have e7 : putS most (bytesS ss) s = (s.1 ++ bytesS ss, 0) := by
                unfold putS putL putE
                have := HSZ.out
                rw [if_pos ⟨HE.out, by omega⟩, if_neg (fun h => h.2 (by omega)), HE.out]
              show TurnB _ _ _ _ _ _ _
              rw [e7]; exact h5
            clear HW
            go_wp2
            go_end0
            exact ⟨rfl, HF.out⟩
    · have hdec : decide (most - (s.1.length : Int) < (sizeS ss : Int)) = true := by simp; omega
      have HF : Hid (putS most (bytesS ss) s = failP 5 s) := by
        show _ = _
        unfold putS failP putL putE failS
        have := bytesS_length ss
        rw [if_neg (fun h => by have := h.2; omega), if_pos ⟨HE.out, fun h => by omega⟩, if_pos HE.out]
      go_wp2_with fail
      refine wp_region_tables Grew [[], [0], [], [2], [3], [4], [], [6], [5, 7], [1, 8]] [[(12, 2), (13, 3), (14, 4), (15, 5), (16, 6), (17, 7), (18, 8), (19, 9)], [(10, 0), (12, 2), (13, 3), (14, 4), (15, 5), (16, 6), (17, 7), (18, 8)], [(10, 0), (11, 1), (14, 4), (15, 5), (16, 6), (17, 7), (18, 8), (19, 9)], [(10, 0), (11, 1), (12, 2), (15, 5), (16, 6), (17, 7), (18, 8), (19, 9)], [(10, 0), (11, 1), (12, 2), (13, 3), (16, 6), (17, 7), (18, 8), (19, 9)], [(10, 0), (11, 1), (12, 2), (13, 3), (14, 4), (16, 6), (17, 7), (19, 9)], [(10, 0), (11, 1), (12, 2), (13, 3), (14, 4), (15, 5), (18, 8), (19, 9)], [(10, 0), (11, 1), (12, 2), (13, 3), (14, 4), (15, 5), (16, 6), (19, 9)], [(10, 0), (11, 1), (12, 2), (13, 3), (14, 4), (15, 5), (16, 6), (17, 7)], [(10, 0), (11, 1), (12, 2), (13, 3), (14, 4), (15, 5), (16, 6), (17, 7), (18, 8)]] [(10, 0), (11, 1), (12, 2), (13, 3), (14, 4), (15, 5), (16, 6), (17, 7), (18, 8), (19, 9)]
        [Is (.slice a ss.length c), Is (.int .i64 (sizeS ss : Int)), Is (bptr p), Is (bptr p), Is (.pointer (some ⟨p, 2, none⟩)), Is (.int .i64 most), Is (bptr p), Is (.int .i64 (s.1.length : Int)), Is (.int .i64 (most - (s.1.length : Int))), Is (.bool true)]
        (by kernel_rfl) Grew.trans Grew.refl (Grew.refl _).drew (by kernel_rfl) ⟨is_st, is_st, is_st, is_st, is_st, is_st, is_st, is_st, is_st, is_st, trivial⟩ ⟨?_, ?_, ?_, ?_, ?_, ?_, ?_, ?_, ?_, ?_, trivial⟩ rfl ?_
      · intro y w2 hG hD K hK
        simp only [fillL, Act.put, List.setIfInBounds_toArray, List.set_cons_zero, List.set_cons_succ, List.getD_cons_zero, List.getD_cons_succ, Is] at hK ⊢
        refine ite_yes (by rfl) ?_
        go_simp
        exact hK _ _ _ rfl (Grew.refl _) rfl
      · intro y w2 hG hD K hK
        simp only [depsH, List.getD_cons_zero, List.getD_cons_succ, Is, and_true] at hD
        have h0 := hD
        clear hD
        simp only [fillL, Act.put, List.setIfInBounds_toArray, List.set_cons_zero, List.set_cons_succ, List.getD_cons_zero, List.getD_cons_succ, Is] at hK ⊢
        rw [h0] at hK ⊢
        clear h0
        refine ite_yes (by rfl) ?_
        go_simp
        refine (sum_any w2 _ ss (HS.out.grew hG) hsl hss).mono ?_
        rintro r w3 ⟨rfl, rfl⟩
        exact hK _ _ _ rfl (Grew.refl _) rfl
      · intro y w2 hG hD K hK
        simp only [fillL, Act.put, List.setIfInBounds_toArray, List.set_cons_zero, List.set_cons_succ, List.getD_cons_zero, List.getD_cons_succ, Is] at hK ⊢
        refine ite_yes (by rfl) ?_
        go_simp
        exact hK _ _ _ rfl (Grew.refl _) rfl
      · intro y w2 hG hD K hK
        simp only [depsH, List.getD_cons_zero, List.getD_cons_succ, Is, and_true] at hD
        have h2 := hD
        clear hD
        simp only [fillL, Act.put, List.setIfInBounds_toArray, List.set_cons_zero, List.set_cons_succ, List.getD_cons_zero, List.getD_cons_succ, Is] at hK ⊢
        rw [h2] at hK ⊢
        clear h2
        refine ite_yes (by rfl) ?_
        go_simp
        exact hK _ _ _ rfl (Grew.refl _) rfl
      · intro y w2 hG hD K hK
        simp only [depsH, List.getD_cons_zero, List.getD_cons_succ, Is, and_true] at hD
        have h3 := hD
        clear hD
        simp only [fillL, Act.put, List.setIfInBounds_toArray, List.set_cons_zero, List.set_cons_succ, List.getD_cons_zero, List.getD_cons_succ, Is] at hK ⊢
        rw [h3] at hK ⊢
        clear h3
        refine ite_yes (by rfl) ?_
        go_simp
        exact hK _ _ _ rfl (Grew.refl _) rfl
      · intro y w2 hG hD K hK
        simp only [depsH, List.getD_cons_zero, List.getD_cons_succ, Is, and_true] at hD
        have h4 := hD
        clear hD
        have dc2 := hG.cell c2
        simp only [fillL, Act.put, List.setIfInBounds_toArray, List.set_cons_zero, List.set_cons_succ, List.getD_cons_zero, List.getD_cons_succ, Is] at hK ⊢
        rw [h4] at hK ⊢
        clear h4
        refine ite_yes (by rfl) ?_
        go_simp
        exact hK _ _ _ rfl (Grew.refl _) rfl
      · intro y w2 hG hD K hK
        simp only [fillL, Act.put, List.setIfInBounds_toArray, List.set_cons_zero, List.set_cons_succ, List.getD_cons_zero, List.getD_cons_succ, Is] at hK ⊢
        refine ite_yes (by rfl) ?_
        go_simp
        exact hK _ _ _ rfl (Grew.refl _) rfl
      · intro y w2 hG hD K hK
        simp only [depsH, List.getD_cons_zero, List.getD_cons_succ, Is, and_true] at hD
        have h6 := hD
        clear hD
        simp only [fillL, Act.put, List.setIfInBounds_toArray, List.set_cons_zero, List.set_cons_succ, List.getD_cons_zero, List.getD_cons_succ, Is] at hK ⊢
        rw [h6] at hK ⊢
        clear h6
        refine ite_yes (by rfl) ?_
        go_simp
        refine (len_any (HB.out.grew hG)).mono ?_
        rintro r w3 ⟨rfl, rfl⟩
        exact hK _ _ _ rfl (Grew.refl _) rfl
      · intro y w2 hG hD K hK
        simp only [depsH, List.getD_cons_zero, List.getD_cons_succ, Is, and_true] at hD
        have h5 := hD.1
        have h7 := hD.2
        clear hD
        simp only [fillL, Act.put, List.setIfInBounds_toArray, List.set_cons_zero, List.set_cons_succ, List.getD_cons_zero, List.getD_cons_succ, Is] at hK ⊢
        rw [h5, h7] at hK ⊢
        clear h5 h7
        refine ite_yes (by rfl) ?_
        go_simp
        exact hK _ _ _ rfl (Grew.refl _) rfl
      · intro y w2 hG hD K hK
        simp only [depsH, List.getD_cons_zero, List.getD_cons_succ, Is, and_true] at hD
        have h1 := hD.1
        have h8 := hD.2
        clear hD
        simp only [fillL, Act.put, List.setIfInBounds_toArray, List.set_cons_zero, List.set_cons_succ, List.getD_cons_zero, List.getD_cons_succ, Is] at hK ⊢
        rw [h1, h8] at hK ⊢
        clear h1 h8
        refine ite_yes (by rfl) ?_
        go_simp
        exact hK _ _ _ rfl (Grew.refl _) rfl
      · intro y w2 hG hF
        simp only [factsH, Is, and_true, Nat.reduceAdd] at hF
        have h0 := hF.1
        have h1 := hF.2.1
        have h2 := hF.2.2.1
        have h3 := hF.2.2.2.1
        have h4 := hF.2.2.2.2.1
        have h5 := hF.2.2.2.2.2.1
        have h6 := hF.2.2.2.2.2.2.1
        have h7 := hF.2.2.2.2.2.2.2.1
        have h8 := hF.2.2.2.2.2.2.2.2.1
        have h9 := hF.2.2.2.2.2.2.2.2.2
        clear hF
        simp only [fillL, Act.put, List.setIfInBounds_toArray, List.set_cons_zero, List.set_cons_succ, List.getD_cons_zero, List.getD_cons_succ, Is]
        rw [h0, h1, h2, h3, h4, h5, h6, h7, h8, h9]
        clear h0 h1 h2 h3 h4 h5 h6 h7 h8 h9
        clear c0 c1 c2 c3 hmm hdec
        have h5 := HB.out.grew hG
        have H5 := Lib.hid h5
        have HG := Lib.hid hG
        clear h5 hG
        go_wp2_with fail
        refine (failT s 5 H5.out).mono ?_
        rintro r w5 ⟨rfl, ht⟩
        have HT := Lib.hid (TurnB.after HG.out ht)
        clear ht
        go_wp2
        refine bodyPost_ret (results_none rfl _ _ _) rfl ?_
        exact ⟨rfl, by rw [HF.out]; exact HT.out⟩
  · have HF : Hid (putS most (bytesS ss) s = s) := by
      show _ = _
      obtain ⟨l, e⟩ := s
      unfold putS putL putE
      rw [if_neg (fun h => he h.1), if_neg (fun h => he h.1)]
    have hne : (s.2 != 0) = true := by simpa using he
    go_wp2
    refine bodyPost_ret (results_none rfl _ _ _) rfl ?_
    exact ⟨rfl, by rw [HF.out]; exact TurnB.refl HB.out⟩
end Go.Proofs.Ytaoflhddcbmacaa
