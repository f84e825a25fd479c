/-
  Buffers that are none: the nil pointer, the zero struct. Every call leaves them alone.
-/
import Derived.Test.YtejaklkageieoaaBufPair
namespace Go.Proofs.Ytejaklkageieoaa
open Go Go.ChangeShapes Go.WideShapes Go.ChangeAt Go.RowKit Go.Joins
set_option linter.unusedVariables false
set_option linter.unusedSimpArgs false

def NoBuf (w : World) (v : Option Addr) : Prop := v = none ∨ ∃ p, v = some ⟨p, 0, none⟩ ∧ w.heap[p]? = some (.cells #[.bool false, .slice none 0 0, .int .i64 0, .int .i64 0] 55 (0, 0))
theorem NoBuf.grew {w w' : World} {v : Option Addr} (h : NoBuf w v) (hg : Grew w w') : NoBuf w' v := by
  rcases h with h | ⟨p, h1, h2⟩
  · exact .inl h
  · exact .inr ⟨p, h1, hg.heap h2⟩
section
variable {w : World} {v : Option Addr}
theorem none_n (h : NoBuf w v) : Calls Try.prog 35 #[.pointer v] w fun r w' => r = .returned (.bool true) ∧ w' = w := by
  rcases h with rfl | ⟨p, rfl, h⟩
  · go_enter Try.func35, Try.ntmps35
    go_wp2
    go_ret
    exact ⟨rfl, rfl⟩
  · obtain ⟨c0, c1, c2, c3⟩ := four_cells h
    clear h
    go_enter Try.func35, Try.ntmps35
    go_wp2
    go_ret
    exact ⟨rfl, rfl⟩
theorem err_n (h : NoBuf w v) : Calls Try.prog 17 #[.pointer v] w fun r w' => r = .returned (.int .i64 1) ∧ w' = w := by
  have HB := Lib.hid h
  clear h
  go_enter Try.func17, Try.ntmps17
  go_wp2_with fail
  refine (none_n HB.out).mono ?_
  rintro r w' ⟨rfl, rfl⟩
  go_wp2
  go_ret
  exact ⟨rfl, rfl⟩
theorem len_n (h : NoBuf w v) : Calls Try.prog 16 #[.pointer v] w fun r w' => r = .returned (.int .i64 0) ∧ w' = w := by
  have HB := Lib.hid h
  clear h
  go_enter Try.func16, Try.ntmps16
  go_wp2_with fail
  refine (none_n HB.out).mono ?_
  rintro r w' ⟨rfl, rfl⟩
  go_wp2
  go_ret
  exact ⟨rfl, rfl⟩
theorem fail_n (x : Int) (h : NoBuf w v) : Calls Try.prog 36 #[.pointer v, .int .i64 x] w fun r w' => r = .returned (.tuple #[]) ∧ w' = w := by
  have HB := Lib.hid h
  clear h
  go_enter Try.func36, Try.ntmps36
  go_wp2_with fail
  refine (err_n HB.out).mono ?_
  rintro r w' ⟨rfl, rfl⟩
  go_wp2
  first | go_end0 | refine bodyPost_ret (results_none rfl _ _ _) rfl ?_
  exact ⟨rfl, rfl⟩
theorem put_n (sv : Value) (h : NoBuf w v) : Calls Try.prog 38 #[.pointer v, sv] w fun r w' => r = .returned (.tuple #[]) ∧ Grew w w' := by
  have HB := Lib.hid h
  clear h
  go_enter Try.func38, Try.ntmps38
  go_wp2_with fail
  refine (err_n HB.out).mono ?_
  rintro r w' ⟨rfl, rfl⟩
  go_wp2
  first | go_end0 | refine bodyPost_ret (results_none rfl _ _ _) rfl ?_
  exact ⟨rfl, Grew.refl _⟩
theorem cut_n (x : Int) (h : NoBuf w v) : Calls Try.prog 22 #[.pointer v, .int .i64 x] w fun r w' => r = .returned (.tuple #[]) ∧ Grew w w' := by
  have HB := Lib.hid h
  clear h
  go_enter Try.func22, Try.ntmps22
  go_wp2_with fail
  refine (err_n HB.out).mono ?_
  rintro r w' ⟨rfl, rfl⟩
  go_wp2
  first | go_end0 | refine bodyPost_ret (results_none rfl _ _ _) rfl ?_
  exact ⟨rfl, Grew.refl _⟩
theorem text_n (sv : Value) (h : NoBuf w v) : Calls Try.prog 23 #[.pointer v, sv] w fun r w' => r = .returned (.tuple #[]) ∧ Grew w w' := by
  have HB := Lib.hid h
  clear h
  go_enter Try.func23, Try.ntmps23
  go_wp2_with fail
  refine (err_n HB.out).mono ?_
  rintro r w' ⟨rfl, rfl⟩
  go_wp2
  refine bodyPost_ret (results_none rfl _ _ _) rfl ?_
  exact ⟨rfl, Grew.refl _⟩
theorem bytes_n (h : NoBuf w v) : Calls Try.prog 13 #[.pointer v] w fun r w' => r = .returned (.tuple #[.slice none 0 0, .int .i64 1]) ∧ w' = w := by
  have HB := Lib.hid h
  clear h
  go_enter Try.func13, Try.ntmps13
  go_wp2_with fail
  refine (err_n HB.out).mono ?_
  rintro r w' ⟨rfl, rfl⟩
  go_wp2
  go_ret2
  exact ⟨rfl, rfl⟩
theorem with_n (k : Nat) (cap : Array Value) (h : NoBuf w v) (he : ∀ w, (callFunc k cap).run Try.prog w = .ok (.enter k cap) w)
    (hdo : Calls Try.prog k cap w fun r w' => r = .returned (.tuple #[]) ∧ Grew w w') :
    Calls Try.prog 39 #[.pointer v, .int .i64 1, .func (.func k) #[] cap] w fun r w' => r = .returned (.tuple #[]) ∧ Grew w w' := by
  have HD := Lib.hid hdo
  clear hdo h
  go_enter Try.func39, Try.ntmps39
  go_wp2_with fail
  refine (code_yes 1 _ (by decide)).mono ?_
  rintro r w' ⟨⟨c, rfl⟩, rfl⟩
  go_wp2_with fail
  refine HD.out.mono ?_
  rintro r w2 ⟨rfl, ht⟩
  have HT := Lib.hid ht
  clear ht
  go_wp2
  go_end0
  exact ⟨rfl, HT.out⟩
set_option maxRecDepth 100000 in
theorem alignc_n (a b : Addr) (ca : w.cell? a = some (.pointer v)) (cb : w.cell? b = some (.int .i64 1)) (h : NoBuf w v) :
    Calls Try.prog 40 #[.pointer (some a), .pointer (some b)] w fun r w' => r = .returned (.tuple #[]) ∧ Grew w w' := by
  have HB := Lib.hid h
  clear h
  go_enter Try.func40, Try.ntmps40
  refine wp_region_last Grew [[], [], [], [2], [], [3, 4], [1, 5], [], [6, 7], [8], [0, 9]] [[(3, 1), (4, 2), (5, 3), (6, 4), (7, 5), (8, 6), (9, 7), (10, 8), (11, 9)], [(2, 0), (4, 2), (5, 3), (6, 4), (7, 5), (9, 7), (10, 8), (11, 9), (12, 10)], [(2, 0), (3, 1), (6, 4), (7, 5), (8, 6), (9, 7), (10, 8), (11, 9), (12, 10)], [(2, 0), (3, 1), (4, 2), (6, 4), (8, 6), (9, 7), (10, 8), (11, 9), (12, 10)], [(2, 0), (3, 1), (4, 2), (5, 3), (8, 6), (9, 7), (10, 8), (11, 9), (12, 10)], [(2, 0), (3, 1), (4, 2), (5, 3), (6, 4), (9, 7), (10, 8), (11, 9), (12, 10)], [(2, 0), (3, 1), (4, 2), (5, 3), (6, 4), (7, 5), (9, 7), (11, 9), (12, 10)], [(2, 0), (3, 1), (4, 2), (5, 3), (6, 4), (7, 5), (8, 6), (11, 9), (12, 10)], [(2, 0), (3, 1), (4, 2), (5, 3), (6, 4), (7, 5), (8, 6), (9, 7), (12, 10)], [(2, 0), (3, 1), (4, 2), (5, 3), (6, 4), (7, 5), (8, 6), (9, 7), (10, 8)], [(2, 0), (3, 1), (4, 2), (5, 3), (6, 4), (7, 5), (8, 6), (9, 7), (10, 8), (11, 9)]]
    [Is (.pointer v), Is (.int .i64 1), Is (.pointer v), Is (.int .i64 0), Is (.int .i64 1), Is (.int .i64 0), Is (.int .i64 1), Is (.int .i64 1), Is (.int .i64 ((0 : Nat) : Int)), fun v w => BytesAt w v (zeros 0)]
    (by kernel_rfl) Grew.trans Grew.refl (Grew.refl _).drew (by kernel_rfl) ⟨is_st, is_st, is_st, is_st, is_st, is_st, is_st, is_st, is_st, fun _ _ _ hr h => BytesAt.grew h hr, trivial⟩ rfl ⟨?_, ?_, ?_, ?_, ?_, ?_, ?_, ?_, ?_, ?_, trivial⟩ ?_ rfl
  · intro y w2 hG hD K hK
    have dca := hG.cell ca
    have dcb := hG.cell cb
    simp only [fillL, Act.put, List.setIfInBounds_toArray, List.set_cons_zero, List.set_cons_succ, List.getD_cons_zero, List.getD_cons_succ, Is] at hK ⊢
    refine ite_yes (by rfl) ?_
    go_simp
    exact hK _ _ _ rfl (Grew.refl _) rfl
  · intro y w2 hG hD K hK
    have dca := hG.cell ca
    have dcb := hG.cell cb
    simp only [fillL, Act.put, List.setIfInBounds_toArray, List.set_cons_zero, List.set_cons_succ, List.getD_cons_zero, List.getD_cons_succ, Is] at hK ⊢
    refine ite_yes (by rfl) ?_
    go_simp
    exact hK _ _ _ rfl (Grew.refl _) rfl
  · intro y w2 hG hD K hK
    have dca := hG.cell ca
    have dcb := hG.cell cb
    simp only [fillL, Act.put, List.setIfInBounds_toArray, List.set_cons_zero, List.set_cons_succ, List.getD_cons_zero, List.getD_cons_succ, Is] at hK ⊢
    refine ite_yes (by rfl) ?_
    go_simp
    exact hK _ _ _ rfl (Grew.refl _) rfl
  · intro y w2 hG hD K hK
    simp only [depsH, List.getD_cons_zero, List.getD_cons_succ, Is, and_true] at hD
    have h2 := hD
    clear hD
    simp only [fillL, Act.put, List.setIfInBounds_toArray, List.set_cons_zero, List.set_cons_succ, List.getD_cons_zero, List.getD_cons_succ, Is] at hK ⊢
    rw [h2] at hK ⊢
    clear h2
    refine ite_yes (by rfl) ?_
    go_simp
    refine (len_n (HB.out.grew hG)).mono ?_
    rintro r w3 ⟨rfl, rfl⟩
    exact hK _ _ _ rfl (Grew.refl _) rfl
  · intro y w2 hG hD K hK
    have dca := hG.cell ca
    have dcb := hG.cell cb
    simp only [fillL, Act.put, List.setIfInBounds_toArray, List.set_cons_zero, List.set_cons_succ, List.getD_cons_zero, List.getD_cons_succ, Is] at hK ⊢
    refine ite_yes (by rfl) ?_
    go_simp
    exact hK _ _ _ rfl (Grew.refl _) rfl
  · intro y w2 hG hD K hK
    simp only [depsH, List.getD_cons_zero, List.getD_cons_succ, Is, and_true] at hD
    have h3 := hD.1
    have h4 := hD.2
    clear hD
    simp only [fillL, Act.put, List.setIfInBounds_toArray, List.set_cons_zero, List.set_cons_succ, List.getD_cons_zero, List.getD_cons_succ, Is] at hK ⊢
    rw [h3, h4] at hK ⊢
    clear h3 h4
    refine ite_yes (by rfl) ?_
    go_simp
    exact hK _ _ _ rfl (Grew.refl _) rfl
  · intro y w2 hG hD K hK
    simp only [depsH, List.getD_cons_zero, List.getD_cons_succ, Is, and_true] at hD
    have h1 := hD.1
    have h5 := hD.2
    clear hD
    simp only [fillL, Act.put, List.setIfInBounds_toArray, List.set_cons_zero, List.set_cons_succ, List.getD_cons_zero, List.getD_cons_succ, Is] at hK ⊢
    rw [h1, h5] at hK ⊢
    clear h1 h5
    refine ite_yes (by rfl) ?_
    go_simp
    exact hK _ _ _ rfl (Grew.refl _) rfl
  · intro y w2 hG hD K hK
    have dca := hG.cell ca
    have dcb := hG.cell cb
    simp only [fillL, Act.put, List.setIfInBounds_toArray, List.set_cons_zero, List.set_cons_succ, List.getD_cons_zero, List.getD_cons_succ, Is] at hK ⊢
    refine ite_yes (by rfl) ?_
    go_simp
    exact hK _ _ _ rfl (Grew.refl _) rfl
  · intro y w2 hG hD K hK
    simp only [depsH, List.getD_cons_zero, List.getD_cons_succ, Is, and_true] at hD
    have h6 := hD.1
    have h7 := hD.2
    clear hD
    simp only [fillL, Act.put, List.setIfInBounds_toArray, List.set_cons_zero, List.set_cons_succ, List.getD_cons_zero, List.getD_cons_succ, Is] at hK ⊢
    rw [h6, h7] at hK ⊢
    clear h6 h7
    refine ite_yes (by rfl) ?_
    go_simp
    exact hK _ _ _ rfl (Grew.refl _) rfl
  · intro y w2 hG hD K hK
    simp only [depsH, List.getD_cons_zero, List.getD_cons_succ, Is, and_true] at hD
    have h8 := hD
    clear hD
    simp only [fillL, Act.put, List.setIfInBounds_toArray, List.set_cons_zero, List.set_cons_succ, List.getD_cons_zero, List.getD_cons_succ, Is] at hK ⊢
    rw [h8] at hK ⊢
    clear h8
    refine ite_yes (by rfl) ?_
    refine wp_make_zeros w2 _ _ rfl 0 rfl rfl (by omega) ?_
    intro v w3 hv hg
    exact hK _ _ _ rfl hg hv
  · intro y w2 hG hF K hK
    simp only [factsH, Is, and_true, Nat.reduceAdd] at hF
    have h0 := hF.1
    have h1 := hF.2.1
    have h2 := hF.2.2.1
    have h3 := hF.2.2.2.1
    have h4 := hF.2.2.2.2.1
    have h5 := hF.2.2.2.2.2.1
    have h6 := hF.2.2.2.2.2.2.1
    have h7 := hF.2.2.2.2.2.2.2.1
    have h8 := hF.2.2.2.2.2.2.2.2.1
    have h9 := hF.2.2.2.2.2.2.2.2.2
    clear hF
    simp only [lastOf]
    simp only [fillL, Act.put, List.setIfInBounds_toArray, List.set_cons_zero, List.set_cons_succ, List.getD_cons_zero, List.getD_cons_succ, Is] at hK ⊢
    rw [h0, h1, h2, h3, h4, h5, h6, h7, h8]
    clear h0 h1 h2 h3 h4 h5 h6 h7 h8
    refine ite_yes (by rfl) ?_
    go_simp
    refine (put_n _ (HB.out.grew hG)).mono ?_
    rintro r w5 ⟨rfl, hg5⟩
    refine hK _ _ ?_
    have HG := Lib.hid (hG.trans hg5)
    clear hg5
    go_wp2
    go_end0
    exact ⟨rfl, HG.out⟩
theorem align_n {w : World} {vv : Option Addr} (h : NoBuf w vv) : Calls Try.prog 25 #[.pointer vv, .int .i64 1] w fun r w' => r = .returned (.tuple #[]) ∧ Grew w w' := by
  have HB := Lib.hid h
  clear h
  go_enter Try.func25, Try.ntmps25
  go_wp2_with fail
  have G : Grew w ((w.alloc (.cells #[.pointer vv] 23)).alloc (.cells #[.int .i64 1] 3)) := ((Grew.refl w).alloc _).alloc _
  refine (with_n _ _ (HB.out.grew G) (fun _ => enters_of Try.func40 (by kernel_rfl) rfl _ _) (alignc_n _ _ (by go_simp) (by go_simp) (HB.out.grew G))).mono ?_
  rintro r w5 ⟨rfl, ht⟩
  have HT := Lib.hid (Grew.trans G ht)
  clear ht G
  go_wp2
  go_end0
  exact ⟨rfl, HT.out⟩
theorem numc_n (a b c : Addr) (ca : w.cell? a = some (.int .i64 1)) (cb : w.cell? b = some (.int .u64 0)) (cc : w.cell? c = some (.pointer v)) (h : NoBuf w v) :
    Calls Try.prog 41 #[.pointer (some a), .pointer (some b), .pointer (some c)] w fun r w' => r = .returned (.tuple #[]) ∧ Grew w w' := by
  have HB := Lib.hid h
  clear h
  go_enter Try.func41, Try.ntmps41
  go_wp2_with fail
  refine (lput_ok 1 0 _ (by decide) (by decide) (by decide) (by decide)).mono ?_
  rintro r w4 ⟨v', rfl, hv, hg⟩
  have cc4 := hg.cell cc
  have HG := Lib.hid hg
  clear hv hg ca cb cc
  go_wp2_with fail
  refine (put_n v' (HB.out.grew HG.out)).mono ?_
  rintro r w5 ⟨rfl, ht⟩
  have HT := Lib.hid (Grew.trans HG.out ht)
  clear ht
  go_wp2
  go_end0
  exact ⟨rfl, HT.out⟩
theorem num_n {w : World} {vv : Option Addr} (h : NoBuf w vv) : Calls Try.prog 26 #[.pointer vv, .int .i64 1, .int .u64 0] w fun r w' => r = .returned (.tuple #[]) ∧ Grew w w' := by
  have HB := Lib.hid h
  clear h
  go_enter Try.func26, Try.ntmps26
  go_wp2_with fail
  have G : Grew w (((w.alloc (.cells #[.pointer vv] 23)).alloc (.cells #[.int .i64 1] 3)).alloc (.cells #[.int .u64 0] 28)) := (((Grew.refl w).alloc _).alloc _).alloc _
  refine (with_n _ _ (HB.out.grew G) (fun _ => enters_of Try.func41 (by kernel_rfl) rfl _ _) (numc_n _ _ _ (by go_simp) (by go_simp) (by go_simp) (HB.out.grew G))).mono ?_
  rintro r w5 ⟨rfl, ht⟩
  have HT := Lib.hid (Grew.trans G ht)
  clear ht G
  go_wp2
  go_end0
  exact ⟨rfl, HT.out⟩
def letterA : ByteArray := ⟨#[97]⟩
set_option maxHeartbeats 1000000 in
theorem does_n (k : Nat) (hk : k < 5) (h : NoBuf w v) : Calls Try.prog 11 #[.pointer v, .agg #[.int .i64 k, .int .i64 1, .int .i64 0, .int .u64 0, .string letterA]] w fun r w' => r = .returned (.tuple #[]) ∧ Grew w w' := by
  have hg : Grew w (w.alloc (.cells #[.int .i64 k, .int .i64 1, .int .i64 0, .int .u64 0, .string letterA] 30)) := (Grew.refl w).alloc _
  have HG := Lib.hid hg
  have HB := Lib.hid (h.grew hg)
  have e : (k : Int) % 5 = k := by omega
  clear h hg
  go_enter Try.func11, Try.ntmps11
  go_wp2_with fail
  refine (short40_any letterA _ (by decide)).mono ?_
  rintro r w' ⟨rfl, rfl⟩
  go_wp2_with fail
  refine (bring_any (k : Int) 5 _ (by omega) (by omega)).mono ?_
  rw [e]
  clear e
  rintro r w' ⟨rfl, rfl⟩
  obtain rfl | rfl | rfl | rfl | rfl : k = 0 ∨ k = 1 ∨ k = 2 ∨ k = 3 ∨ k = 4 := by omega
  · go_wp2_with fail
    refine (align_n HB.out).mono ?_
    rintro r w5 ⟨rfl, ht⟩
    have HT := Lib.hid (HG.out.trans ht)
    clear ht
    go_wp2
    go_end0
    exact ⟨rfl, HT.out⟩
  · go_wp2_with fail
    refine (num_n HB.out).mono ?_
    rintro r w5 ⟨rfl, ht⟩
    have HT := Lib.hid (HG.out.trans ht)
    clear ht
    go_wp2
    go_end0
    exact ⟨rfl, HT.out⟩
  · go_wp2_with fail
    refine (text_n _ (HB.out.grew ((Grew.refl _).alloc _))).mono ?_
    rintro r w5 ⟨rfl, ht⟩
    have HT := Lib.hid ((HG.out.alloc _).trans ht)
    clear ht
    go_wp2
    go_end0
    exact ⟨rfl, HT.out⟩
  · go_wp2_with fail
    refine (cut_n 0 HB.out).mono ?_
    rintro r w5 ⟨rfl, ht⟩
    have HT := Lib.hid (HG.out.trans ht)
    clear ht
    go_wp2
    go_end0
    exact ⟨rfl, HT.out⟩
  · go_wp2_with fail
    refine (text_n _ (HB.out.grew ((Grew.refl _).alloc _))).mono ?_
    rintro r w5 ⟨rfl, ht⟩
    have HT := Lib.hid ((HG.out.alloc _).trans ht)
    clear ht
    go_wp2
    go_end0
    exact ⟨rfl, HT.out⟩
end
end Go.Proofs.Ytejaklkageieoaa
