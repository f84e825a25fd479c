/-
  Package vec: Put, fixed vectors.
-/
import Derived.Test.YtaoflhddcbmacaaVec5
import Derived.Laws.EntriesVeiled
namespace Go.Proofs.Ytaoflhddcbmacaa
open Go Go.ChangeShapes Go.WideShapes Go.ChangeAt Go.RowKit Go.Joins
open Go.Proofs.Ytaoflhddcbmacaa.Ft (V3 vV okV ValsAt inlineB legalB packF codeF typedF allF)
set_option linter.unusedVariables false
set_option linter.unusedSimpArgs false

theorem shaped_f (elem kd : Int) (m : Nat) (hkd : typedF elem (m : Int) = (kd, true)) (hpos : 0 < m) (w : World) (n : Nat) (hn : n = w.heap.size) : Calls Try.prog 23 #[.int .i64 elem, .int .i64 (m : Int)] w fun r w' => r = .returned (.tuple #[.agg #[.int .i64 kd, .bool false, fnv 43 #[.pointer (some ⟨n, 0, none⟩)], fnv 44 #[]], .int .i64 0]) ∧ Grew w w' ∧ w'.cell? ⟨n, 0, none⟩ = some (.int .i64 elem) := by
  subst hn
  refine (shaped_ty elem m (fun h => by omega) w).mono ?_
  rintro r w' ⟨rfl, hg, hc, _⟩
  refine ⟨?_, hg, hc⟩
  unfold shapeT
  rw [hkd, if_pos rfl, show ((m : Int) == 0) = false by simp; omega]
set_option maxRecDepth 100000 in
set_option maxHeartbeats 2000000 in
theorem put_fix (elem kd : Int) {B : Nat} {w : World} {p : Nat} {o : Option Nat} {most : Int} (s : St) (lv : Value) (l : List V3) (hkd : typedF elem (l.length : Int) = (kd, true)) (hpos : 0 < l.length) (h : BufAt B w p o s.1 most s.2) (hB : B ≤ w.heap.size) (hl : (s.1.length : Int) ≤ most) (hm1 : most ≤ 1048576)
    (hv : ValsAt w lv l) (hlen : l.length ≤ 1048576) (hok : ∀ v ∈ l, okV v) (hap : ∀ ad n c, lv = .slice (some ad) n c → ad.block < w.heap.size ∧ ¬ Own2 p o ad.block) (hs : s.2 = 0) :
    Calls Try.prog 10 #[bptr p, .int .i64 elem, .int .i64 (l.length : Int), lv] w fun r w' => r = .returned (putV (putF most (takesE elem) false false kd 0 l s).1) ∧ TurnB B w w' p o most (putF most (takesE elem) false false kd 0 l s).2 := by
  have HB0 := Lib.hid h
  have HA := Lib.hid hap
  have HOK := Lib.hid hok
  have HV := Lib.hid hv
  obtain ⟨a, c, rfl, hcell⟩ := hv
  have HC := Lib.hid hcell
  have HP := Lib.hid (rfl : putF most (takesE elem) false false kd 0 l s = putF most (takesE elem) false false kd 0 l s)
  generalize hP : putF most (takesE elem) false false kd 0 l s = P
  have HPP := Lib.hid hP
  clear h hap hok hcell HP hP
  go_enter Try.func10, Try.ntmps10
  go_wp2_with fail
  refine (err_any (HB0.out.grew ((Grew.refl w).alloc _))).mono ?_
  rw [hs]
  rintro r w1 ⟨rfl, rfl⟩
  go_wp2_with fail
  refine (shaped_f elem kd l.length hkd hpos _ (w.heap.size + 1) (by simp)).mono ?_
  rintro r w1 ⟨rfl, hg, hce⟩
  have HCE := Lib.hid hce
  clear hce hkd
  have hb : w1.heap[w.heap.size]? = some (.cells #[.int .i64 0, .int .i64 0, .int .u64 0] 28) := hg.heap (heap_alloc_new _ _)
  have HR := Lib.hid hb
  have HG : Hid (Grew w w1) := ((Grew.refl w).alloc _).trans hg
  have HSZ := Lib.hid hg.size
  clear hb hg
  go_wp2_with fail
  go_loopw [12, 13] (fun e i wr => ∃ k : Nat, k ≤ l.length ∧ i = .int .i64 k ∧ e = .int .i64 (eachL (takesE elem) 0 (l.take k)) ∧ Hid (Grew w wr ∧ wr.heap[w.heap.size]? = some (.cells #[.int .i64 0, .int .i64 0, .int .u64 0] 28) ∧ wr.cell? ⟨w1.heap.size, 0, none⟩ = some (.int .i64 kd) ∧ wr.cell? ⟨w1.heap.size, 1, none⟩ = some (.bool false) ∧ wr.cell? ⟨w1.heap.size, 2, none⟩ = some (fnv 43 #[.pointer (some ⟨w.heap.size + 1, 0, none⟩)]) ∧ wr.cell? ⟨w1.heap.size, 3, none⟩ = some (fnv 44 #[]) ∧ wr.cell? ⟨w.heap.size + 1, 0, none⟩ = some (.int .i64 elem))) (fun _ i _ => l.length - (intOf i).toNat)
  case atStart =>
    refine ⟨0, Nat.zero_le _, rfl, rfl, ?_⟩
    show _ ∧ _
    exact ⟨HG.out.alloc _, ((Grew.refl w1).alloc _).heap HR.out, by go_simp, by go_simp, by go_simp, by go_simp, ((Grew.refl w1).alloc _).cell HCE.out⟩
  case round =>
    obtain ⟨k, hk, rfl, rfl, HW⟩ := hrel
    by_cases hlt : k < l.length
    · by_cases he : eachL (takesE elem) 0 (l.take k) = 0
      · obtain ⟨bl, off, rfl, q0, q1, q2⟩ := HC.out k l[k] (List.getElem?_eq_getElem hlt)
        have HSN := Lib.hid (eachL_snoc (takesE elem) 0 l k hlt he)
        have d0 := HW.out.1.cell q0
        have d1 := HW.out.1.cell q1
        have d2 := HW.out.1.cell q2
        have g2 := HW.out.2.2.2.2.1
        rw [he]
        generalize l[k] = v at *
        obtain ⟨ty, wd, vn⟩ := v
        simp only at d0 d1 d2
        clear q0 q1 q2
        go_wp2_with fail
        refine wp_region_tables Grew [[], [0], [], [], [2, 3], [4], [1, 5], [6]] [[(54, 2), (55, 3), (56, 4), (57, 5), (58, 6), (12, 7)], [(52, 0), (54, 2), (55, 3), (56, 4), (57, 5), (12, 7)], [(52, 0), (53, 1), (55, 3), (57, 5), (58, 6), (12, 7)], [(52, 0), (53, 1), (54, 2), (57, 5), (58, 6), (12, 7)], [(52, 0), (53, 1), (54, 2), (55, 3), (58, 6), (12, 7)], [(52, 0), (53, 1), (54, 2), (55, 3), (56, 4), (12, 7)], [(52, 0), (53, 1), (54, 2), (55, 3), (56, 4), (57, 5)], [(52, 0), (53, 1), (54, 2), (55, 3), (56, 4), (57, 5), (58, 6)]] [(52, 0), (53, 1), (54, 2), (55, 3), (56, 4), (57, 5), (58, 6), (12, 7)]
          [Is (.pointer (some ⟨w1.heap.size, 2, none⟩)), Is (fnv 43 #[.pointer (some ⟨w.heap.size + 1, 0, none⟩)]), Is (.slice (some ⟨bl, off, none⟩) l.length c), Is (.int .i64 k), Is (.pointer (some ⟨bl, off + k * 3, none⟩)), Is (.agg #[.int .i64 ty, .int .i64 wd, .int .u64 vn]), Is (.int .i64 (takesE elem (ty, wd, vn))), Is (.int .i64 (takesE elem (ty, wd, vn)))]
          (by kernel_rfl) Grew.trans Grew.refl (Grew.refl _).drew (by kernel_rfl) ⟨is_st, is_st, is_st, is_st, is_st, is_st, is_st, is_st, trivial⟩ ⟨?_, ?_, ?_, ?_, ?_, ?_, ?_, ?_, trivial⟩ rfl ?_
        · intro y w2 hG hD K hK
          simp only [fillL, Act.put, List.setIfInBounds_toArray, List.set_cons_zero, List.set_cons_succ, List.getD_cons_zero, List.getD_cons_succ, Is] at hK ⊢
          refine ite_yes (by rfl) ?_
          go_simp
          exact hK _ _ _ rfl (Grew.refl _) rfl
        · intro y w2 hG hD K hK
          simp only [depsH, List.getD_cons_zero, List.getD_cons_succ, Is, and_true] at hD
          have h0 := hD
          clear hD
          have dg2 := hG.cell g2
          have dd0 := hG.cell d0
          have dd1 := hG.cell d1
          have dd2 := hG.cell d2
          simp only [fillL, Act.put, List.setIfInBounds_toArray, List.set_cons_zero, List.set_cons_succ, List.getD_cons_zero, List.getD_cons_succ, Is] at hK ⊢
          rw [h0] at hK ⊢
          clear h0
          refine ite_yes (by rfl) ?_
          go_simp
          exact hK _ _ _ rfl (Grew.refl _) rfl
        · intro y w2 hG hD K hK
          simp only [fillL, Act.put, List.setIfInBounds_toArray, List.set_cons_zero, List.set_cons_succ, List.getD_cons_zero, List.getD_cons_succ, Is] at hK ⊢
          refine ite_yes (by rfl) ?_
          go_simp
          exact hK _ _ _ rfl (Grew.refl _) rfl
        · intro y w2 hG hD K hK
          simp only [fillL, Act.put, List.setIfInBounds_toArray, List.set_cons_zero, List.set_cons_succ, List.getD_cons_zero, List.getD_cons_succ, Is] at hK ⊢
          refine ite_yes (by rfl) ?_
          go_simp
          exact hK _ _ _ rfl (Grew.refl _) rfl
        · intro y w2 hG hD K hK
          simp only [depsH, List.getD_cons_zero, List.getD_cons_succ, Is, and_true] at hD
          have h2 := hD.1
          have h3 := hD.2
          clear hD
          simp only [fillL, Act.put, List.setIfInBounds_toArray, List.set_cons_zero, List.set_cons_succ, List.getD_cons_zero, List.getD_cons_succ, Is] at hK ⊢
          rw [h2, h3] at hK ⊢
          clear h2 h3
          refine ite_yes (by rfl) ?_
          go_simp
          exact hK _ _ _ rfl (Grew.refl _) rfl
        · intro y w2 hG hD K hK
          simp only [depsH, List.getD_cons_zero, List.getD_cons_succ, Is, and_true] at hD
          have h4 := hD
          clear hD
          have dg2 := hG.cell g2
          have dd0 := hG.cell d0
          have dd1 := hG.cell d1
          have dd2 := hG.cell d2
          simp only [fillL, Act.put, List.setIfInBounds_toArray, List.set_cons_zero, List.set_cons_succ, List.getD_cons_zero, List.getD_cons_succ, Is] at hK ⊢
          rw [h4] at hK ⊢
          clear h4
          refine ite_yes (by rfl) ?_
          go_simp
          exact hK _ _ _ rfl (Grew.refl _) rfl
        · intro y w2 hG hD K hK
          simp only [depsH, List.getD_cons_zero, List.getD_cons_succ, Is, and_true] at hD
          have h1 := hD.1
          have h5 := hD.2
          clear hD
          simp only [fillL, Act.put, List.setIfInBounds_toArray, List.set_cons_zero, List.set_cons_succ, List.getD_cons_zero, List.getD_cons_succ, Is] at hK ⊢
          rw [h1, h5] at hK ⊢
          clear h1 h5
          refine ite_yes (by rfl) ?_
          go_simp
          refine (takes_any elem (ty, wd, vn) _ _ (hG.cell HW.out.2.2.2.2.2.2)).mono ?_
          rintro r w3 ⟨rfl, hg⟩
          exact hK _ _ _ rfl hg rfl
        · intro y w2 hG hD K hK
          simp only [depsH, List.getD_cons_zero, List.getD_cons_succ, Is, and_true] at hD
          have h6 := hD
          clear hD
          simp only [fillL, Act.put, List.setIfInBounds_toArray, List.set_cons_zero, List.set_cons_succ, List.getD_cons_zero, List.getD_cons_succ, Is] at hK ⊢
          rw [h6] at hK ⊢
          clear h6
          refine ite_yes (by rfl) ?_
          go_simp
          exact hK _ _ _ rfl (Grew.refl _) rfl
        · intro y w2 hG hF
          simp only [factsH, Is, and_true, Nat.reduceAdd] at hF
          have h0 := hF.1
          have h1 := hF.2.1
          have h2 := hF.2.2.1
          have h3 := hF.2.2.2.1
          have h4 := hF.2.2.2.2.1
          have h5 := hF.2.2.2.2.2.1
          have h6 := hF.2.2.2.2.2.2.1
          have h7 := hF.2.2.2.2.2.2.2
          clear hF
          simp only [fillL, Act.put, List.setIfInBounds_toArray, List.set_cons_zero, List.set_cons_succ, List.getD_cons_zero, List.getD_cons_succ, Is]
          rw [h0, h1, h2, h3, h4, h5, h6, h7]
          clear h0 h1 h2 h3 h4 h5 h6 h7
          have HG2 := Lib.hid (HW.out.1.trans hG)
          have HGG := Lib.hid hG
          clear hG
          go_wp2
          go_roundw
          case rel =>
            have hw := HW.out
            have hgg := HGG.out
            exact ⟨k + 1, by omega, by go_num, by rw [HSN.out], HG2.out, hgg.heap hw.2.1, hgg.cell hw.2.2.1, hgg.cell hw.2.2.2.1, hgg.cell hw.2.2.2.2.1, hgg.cell hw.2.2.2.2.2.1, hgg.cell hw.2.2.2.2.2.2⟩
          case measure => simp [intOf]; omega
      · have hF : putF most (takesE elem) false false kd 0 l s = (((0, 0, 0), eachL (takesE elem) 0 (l.take k)), s) := by
          unfold putF
          rw [eachL_drop (takesE elem) 0 l k he, if_pos he]
        have HF := Lib.hid hF
        clear hF
        generalize eachL (takesE elem) 0 (l.take k) = e at *
        obtain ⟨hgw, hrow, _⟩ := HW.out
        have f0 := row_frozen hrow 0
        have f1 := row_frozen hrow 1
        have f2 := row_frozen hrow 2
        have c0 := row_cell hrow 0 _ rfl
        have c1 := row_cell hrow 1 _ rfl
        have c2 := row_cell hrow 2 _ rfl
        have HGW := Lib.hid hgw
        clear hrow hgw
        go_wp2
        refine bodyPost_ret (v := putV ((0, 0, 0), e)) ?_ rfl ⟨?_, ?_⟩
        · simp [results, Try.results10, go_sem, c0, c1, c2, putV, vV]
        · rw [← HPP.out, HF.out]
        · rw [← HPP.out, HF.out]
          exact (TurnB.refl HB0.out).grew ((((HGW.out).setCell (Nat.le_refl _) _).setCell (Nat.le_refl _) _).setCell (Nat.le_refl _) _)
    · have ek : k = l.length := by omega
      rw [ek, List.take_length]
      by_cases he : eachL (takesE elem) 0 l = 0
      · rw [he]
        clear hlt
        obtain ⟨hgw, hrow, g0, g1, g2, g3, _⟩ := HW.out
        have HGW := Lib.hid hgw
        have HROW := Lib.hid hrow
        clear hrow hgw HW
        go_wp2_with fail
        refine (len_any (HB0.out.grew HGW.out)).mono ?_
        rintro r w3 ⟨rfl, rfl⟩
        go_wp2_with fail
        refine (Ft.all_any l (0, 0, 0) _ 0 _ _ (by omega) HOK.out ok0 (HV.out.grew HGW.out)).mono ?_
        rintro r w3 ⟨rfl, hg⟩
        have HG3 := Lib.hid (HGW.out.trans hg)
        have HROW3 := Lib.hid (hg.heap HROW.out)
        replace g0 := hg.cell g0
        replace g1 := hg.cell g1
        replace g3 := hg.cell g3
        clear hg g2
        by_cases hx : allF l (0, 0, 0) s.1.length 0 = 0
        · have hF : putF most (takesE elem) false false kd 0 l s = (((0, 0, 0), 211), s) := by
            unfold putF
            rw [if_neg (by simpa using he)]
            simp [hx]
          have HF := Lib.hid hF
          clear hF
          rw [hx]
          have hrow := HROW3.out
          have f0 := row_frozen hrow 0
          have f1 := row_frozen hrow 1
          have f2 := row_frozen hrow 2
          have c0 := row_cell hrow 0 _ rfl
          have c1 := row_cell hrow 1 _ rfl
          have c2 := row_cell hrow 2 _ rfl
          clear hrow
          go_wp2
          refine bodyPost_ret (v := putV ((0, 0, 0), 211)) ?_ rfl ⟨?_, ?_⟩
          · simp [results, Try.results10, go_sem, c0, c1, c2, putV, vV]
          · rw [← HPP.out, HF.out]
          · rw [← HPP.out, HF.out]
            exact (TurnB.refl HB0.out).grew ((((HG3.out).setCell (Nat.le_refl _) _).setCell (Nat.le_refl _) _).setCell (Nat.le_refl _) _)
        · have HX := Lib.hid (allF_isW hx)
          have HXE := Lib.hid (rfl : allF l (0, 0, 0) s.1.length 0 = allF l (0, 0, 0) s.1.length 0)
          have HF : Hid (∀ x, allF l (0, 0, 0) s.1.length 0 = x → x ≠ 0 → putF most (takesE elem) false false kd 0 l s = if (elemsS most x l (alignS most x s)).2 ≠ 0 then (((0, 0, 0), (elemsS most x l (alignS most x s)).2), elemsS most x l (alignS most x s)) else (((kd, x, ((alignS most x s).1.length : Int)), 0), elemsS most x l (alignS most x s))) := by
            show ∀ x, _ = x → _
            intro x hx hx0
            unfold putF
            rw [if_neg (by simpa using he)]
            simp only [if_true, if_false, Bool.false_eq_true, if_neg]
            rw [hx, if_neg hx0]
          replace HF := Lib.hid (HF.out _ rfl hx)
          have M3 : Mid B w p o most (.slice a l.length c) l w.heap.size w1.heap.size kd false (fnv 44 #[]) s o w3 := by
            have hs3 := HG3.out.size
            have hlt1 := lt_of_cell g0
            have hb0 := HB0.out.lt
            have hs1 := HG.out.size
            refine ⟨HB0.out.grew HG3.out, Next.refl _ _, Moved.of_grew HG3.out, ?_, HV.out.grew HG3.out, HROW3.out, g0, g1, g3⟩
            rintro b (rfl | rfl | ⟨ad, n, c', e, rfl⟩)
            · exact ⟨by simp at hlt1; omega, fun h => by have := hb0 _ h; omega⟩
            · exact ⟨by simpa using hlt1, fun h => by have := hb0 _ h; omega⟩
            · have := HA.out ad n c' e
              exact ⟨by omega, this.2⟩
          have HM3 := Lib.hid M3
          have HB3 : B ≤ w3.heap.size := Nat.le_trans hB HG3.out.size
          clear M3 HXE g0 g1 g3 HROW3 HROW HG3 HGW
          generalize allF l (0, 0, 0) s.1.length 0 = x at *
          go_wp2_with fail
          refine (align_any s x HM3.out.1 HB3 hl hm1).mono ?_
          rintro r w4 ⟨rfl, ht⟩
          have HB4 : B ≤ w4.heap.size := by obtain ⟨_, _, _, m⟩ := ht; exact Nat.le_trans HB3 m.size
          obtain ⟨o4, m4⟩ := HM3.out.step ht
          have g1 := m4.2.2.2.2.2.2.2.1
          have HM4 := Lib.hid m4
          clear ht m4
          go_wp2_with fail
          refine (len_any HM4.out.1).mono ?_
          rintro r w6 ⟨rfl, rfl⟩
          go_wp2_with fail
          refine (elements_any (alignS most x s) x _ l HX.out HM4.out.1 HB4 (alignS_le hl) hm1 HM4.out.2.2.2.2.1 hlen HOK.out (fun ad n c' e => (HM4.out.2.2.2.1 _ (.inr (.inr ⟨ad, n, c', e, rfl⟩))).2)).mono ?_
          rintro r w6 ⟨rfl, ht⟩
          have HB6 : B ≤ w6.heap.size := by obtain ⟨_, _, _, m⟩ := ht; exact Nat.le_trans HB4 m.size
          obtain ⟨o6, m6⟩ := HM4.out.step ht
          have g3 := m6.2.2.2.2.2.2.2.2
          have HM6 := Lib.hid m6
          clear ht m6
          go_wp2_with fail
          refine (noTags_any _ _ _ _).mono ?_
          rintro r w7 ⟨rfl, hg⟩
          have ht := (TurnB.refl (o := o6) HM6.out.1).grew hg
          obtain ⟨o7, m7⟩ := HM6.out.step ht
          have g0 := m7.2.2.2.2.2.2.1
          have hrow := m7.2.2.2.2.2.1
          have HM7 := Lib.hid m7
          clear ht m7 g3
          go_wp2_with fail
          refine (err_any HM7.out.1).mono ?_
          rintro r w8 ⟨rfl, rfl⟩
          have hn2 := alignS_le (x := x) hl
          by_cases hz : (elemsS most x l (alignS most x s)).2 = 0
          · have HF2 : Hid (putF most (takesE elem) false false kd 0 l s = (((kd, x, ((alignS most x s).1.length : Int)), 0), (elemsS most x l (alignS most x s)))) := HF.out.trans (if_neg (by simpa using hz))
            rw [hz]
            clear HF hz HM3 HM4 HM6
            generalize (elemsS most x l (alignS most x s)) = sf at *
            generalize alignS most x s = s2 at *
            have f0 := row_frozen hrow 0
            have f1 := row_frozen hrow 1
            have f2 := row_frozen hrow 2
            have c0 := row_cell hrow 0 _ rfl
            have c1 := row_cell hrow 1 _ rfl
            have c2 := row_cell hrow 2 _ rfl
            clear hrow
            go_wp2
            refine bodyPost_ret (v := putV ((kd, x, (s2.1.length : Int)), 0)) ?_ rfl ⟨?_, ?_⟩
            · simp [results, Try.results10, go_sem, c0, c1, c2, putV, vV]
            · rw [← HPP.out, HF2.out]
            · rw [← HPP.out, HF2.out]
              exact HM7.out.turnSet (Nat.le_refl _) _ _ _
          · have HF2 : Hid (putF most (takesE elem) false false kd 0 l s = (((0, 0, 0), (elemsS most x l (alignS most x s)).2), (elemsS most x l (alignS most x s)))) := HF.out.trans (if_pos (by simpa using hz))
            clear HF HM3 HM4 HM6
            generalize (elemsS most x l (alignS most x s)) = sf at *
            have f0 := row_frozen hrow 0
            have f1 := row_frozen hrow 1
            have f2 := row_frozen hrow 2
            have c0 := row_cell hrow 0 _ rfl
            have c1 := row_cell hrow 1 _ rfl
            have c2 := row_cell hrow 2 _ rfl
            clear hrow
            go_wp2
            refine bodyPost_ret (v := putV ((0, 0, 0), sf.2)) ?_ rfl ⟨?_, ?_⟩
            · simp [results, Try.results10, go_sem, c0, c1, c2, putV, vV]
            · rw [← HPP.out, HF2.out]
            · rw [← HPP.out, HF2.out]
              exact HM7.out.turnSet (Nat.le_refl _) _ _ _
      · have hF : putF most (takesE elem) false false kd 0 l s = (((0, 0, 0), eachL (takesE elem) 0 l), s) := by
          unfold putF
          rw [if_pos he]
        have HF := Lib.hid hF
        clear hF
        generalize eachL (takesE elem) 0 l = e at *
        obtain ⟨hgw, hrow, _⟩ := HW.out
        have f0 := row_frozen hrow 0
        have f1 := row_frozen hrow 1
        have f2 := row_frozen hrow 2
        have c0 := row_cell hrow 0 _ rfl
        have c1 := row_cell hrow 1 _ rfl
        have c2 := row_cell hrow 2 _ rfl
        have HGW := Lib.hid hgw
        clear hrow hgw
        go_wp2
        refine bodyPost_ret (v := putV ((0, 0, 0), e)) ?_ rfl ⟨?_, ?_⟩
        · simp [results, Try.results10, go_sem, c0, c1, c2, putV, vV]
        · rw [← HPP.out, HF.out]
        · rw [← HPP.out, HF.out]
          exact (TurnB.refl HB0.out).grew ((((HGW.out).setCell (Nat.le_refl _) _).setCell (Nat.le_refl _) _).setCell (Nat.le_refl _) _)
end Go.Proofs.Ytaoflhddcbmacaa
