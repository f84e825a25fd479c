/-
  BufPlays: the program's buffer and the reference agree after every call.
-/
import Derived.Test.YtejaklkageieoaaRows
import Derived.Test.YtejaklkageieoaaBufOpen
import Derived.ProofKit
import Derived.OpenShut
import Derived.ShutString
import Derived.ChangeOld
import Derived.Below
import Derived.Lib.SmallJoins
namespace Go.Proofs.Ytejaklkageieoaa
open Go Go.ChangeShapes Go.WideShapes Go.ChangeAt Go.RowKit Go.Joins
open Go.ChangeMaps (open_string shut_string)
set_option linter.unusedVariables false
set_option linter.unusedSimpArgs false

set_option maxRecDepth 100000 in
set_option maxHeartbeats 4000000 in
theorem bufPlays_any (most : Int) (lv : Value) (l : List DoV) (w : World) (hl : DosAt w lv l) (hlen : l.length ≤ 9223372036854775807) (hok : ∀ x ∈ l, DoV.ok x) :
    Calls Try.prog 3 #[.int .i64 most, lv] w fun r w' => r = .returned (.bool true) ∧ Below w.heap.size w w' := by
  have HLV := Lib.hid hl
  obtain ⟨a0, cap, rfl, hcap, _⟩ := hl
  have HOK := Lib.hid hok
  clear hok
  go_enter Try.func3, Try.ntmps3
  go_wp2_with fail
  refine (newL (w0 := w) most (Below.refl _ _)).mono ?_
  rintro r u1 ⟨rfl, h, hg, hlt⟩
  have H := Lib.hid h
  clear h hg hlt
  go_wp2_with fail
  refine (rnew2 most H.out).mono ?_
  rintro r u2 ⟨rfl, h⟩
  have H2 := Lib.hid h
  clear h
  generalize w.heap.size = p at *
  generalize u1.heap.size = q at *
  generalize roomOf most = rm at *
  go_wp2_with fail
  go_loopw [7] (fun i wr => ∃ k : Nat, k ≤ l.length ∧ i = .int .i64 k ∧ ∃ s : St, Hid (LiveBR w wr p q rm rm s s)) (fun i _ => l.length - (intOf i).toNat)
  case atStart => exact ⟨0, Nat.zero_le _, rfl, _, H2⟩
  case round =>
    obtain ⟨k, hk, rfl, s0, HW⟩ := hrel
    by_cases hlt : k < l.length
    · by_cases h60 : k < 60
      · obtain ⟨b, off, c, e1, hbw, hcl⟩ := HLV.out.nth k hlt
        have hd := HOK.out l[k] (List.getElem_mem hlt)
        have HD := Lib.hid hd
        generalize l[k] = dd at *
        injection e1 with e1 _ e3
        subst e1 e3
        have HC := Lib.hid hcl
        clear hd hcl H H2
        obtain ⟨d0, d1, d2, d3, d4⟩ := HC.out.below HW.out.below hbw
        go_wp2_with fail
        refine (doesBR dd HD.out HW.out).mono ?_
        rintro r wa ⟨rfl, h⟩
        have HWa := Lib.hid h
        clear h d0 d1 d2 d3 d4
        obtain ⟨d0, d1, d2, d3, d4⟩ := HC.out.below HWa.out.below hbw
        go_wp2_with fail
        refine (own_BR dd HD.out HWa.out).mono ?_
        rintro r wb ⟨rfl, h⟩
        generalize doS rm dd s0 = s at *
        have HLA := Lib.hid h
        clear h d0 d1 d2 d3 d4 HWa
        go_wp2_with fail
        refine (bytesBR1 HLA.out).mono ?_
        rintro r wc ⟨v1, rfl, hv1, ho1, hg1⟩
        have HV1' := Lib.hid hv1
        have HO' := Lib.hid ho1
        have HG1 := Lib.hid hg1
        clear hv1 ho1 hg1
        go_wp2_with fail
        refine (bytesBR2 (HLA.out.grew HG1.out)).mono ?_
        rintro r wd ⟨v2, rfl, hv2, hg2⟩
        have HV2 := Lib.hid hv2
        have HV1 := Lib.hid (HV1'.out.grew hg2)
        have HO := Lib.hid (HO'.out.kept (Grew.grownBy hg2) (by cases v1.ownBlock <;> simp))
        have HGA := Lib.hid (HG1.out.trans hg2)
        have HL := Lib.hid (HLA.out.grew HGA.out)
        obtain ⟨ra, rc, cb, ce⟩ := HL.out.cells
        clear hv2 hg2 HV1' HO' HG1
        go_wp2_with fail
        refine wp_region_tables Grew [[], [], [0, 1], [2], [3], [4], [4], [4, 5, 6], [4, 7], [8], [9], [9, 10], [9], [9, 12], [9, 13], [9, 14], [9, 15], [9, 11, 16], [9, 17], [18], [19], [19, 20], [19], [19, 22], [19, 23], [19, 24], [19, 21, 25], [19, 26]] [[(49, 1), (51, 3), (52, 4), (53, 5), (54, 6), (55, 7), (56, 8), (57, 9), (58, 10), (59, 11), (60, 12), (61, 13), (62, 14), (63, 15), (64, 16), (65, 17), (66, 18), (67, 19), (68, 20), (69, 21), (70, 22), (71, 23), (72, 24), (73, 25), (74, 26), (75, 27)], [(48, 0), (51, 3), (52, 4), (53, 5), (54, 6), (55, 7), (56, 8), (57, 9), (58, 10), (59, 11), (60, 12), (61, 13), (62, 14), (63, 15), (64, 16), (65, 17), (66, 18), (67, 19), (68, 20), (69, 21), (70, 22), (71, 23), (72, 24), (73, 25), (74, 26), (75, 27)], [(48, 0), (49, 1), (52, 4), (53, 5), (54, 6), (55, 7), (56, 8), (57, 9), (58, 10), (59, 11), (60, 12), (61, 13), (62, 14), (63, 15), (64, 16), (65, 17), (66, 18), (67, 19), (68, 20), (69, 21), (70, 22), (71, 23), (72, 24), (73, 25), (74, 26), (75, 27)], [(48, 0), (49, 1), (50, 2), (53, 5), (54, 6), (55, 7), (56, 8), (57, 9), (58, 10), (59, 11), (60, 12), (61, 13), (62, 14), (63, 15), (64, 16), (65, 17), (66, 18), (67, 19), (68, 20), (69, 21), (70, 22), (71, 23), (72, 24), (73, 25), (74, 26), (75, 27)], [(48, 0), (49, 1), (50, 2), (51, 3), (57, 9), (58, 10), (59, 11), (60, 12), (61, 13), (62, 14), (63, 15), (64, 16), (65, 17), (66, 18), (67, 19), (68, 20), (69, 21), (70, 22), (71, 23), (72, 24), (73, 25), (74, 26), (75, 27)], [(48, 0), (49, 1), (50, 2), (51, 3), (52, 4), (54, 6), (56, 8), (57, 9), (58, 10), (59, 11), (60, 12), (61, 13), (62, 14), (63, 15), (64, 16), (65, 17), (66, 18), (67, 19), (68, 20), (69, 21), (70, 22), (71, 23), (72, 24), (73, 25), (74, 26), (75, 27)], [(48, 0), (49, 1), (50, 2), (51, 3), (52, 4), (53, 5), (56, 8), (57, 9), (58, 10), (59, 11), (60, 12), (61, 13), (62, 14), (63, 15), (64, 16), (65, 17), (66, 18), (67, 19), (68, 20), (69, 21), (70, 22), (71, 23), (72, 24), (73, 25), (74, 26), (75, 27)], [(48, 0), (49, 1), (50, 2), (51, 3), (52, 4), (53, 5), (54, 6), (57, 9), (58, 10), (59, 11), (60, 12), (61, 13), (62, 14), (63, 15), (64, 16), (65, 17), (66, 18), (67, 19), (68, 20), (69, 21), (70, 22), (71, 23), (72, 24), (73, 25), (74, 26), (75, 27)], [(48, 0), (49, 1), (50, 2), (51, 3), (52, 4), (53, 5), (54, 6), (55, 7), (58, 10), (59, 11), (60, 12), (61, 13), (62, 14), (63, 15), (64, 16), (65, 17), (66, 18), (67, 19), (68, 20), (69, 21), (70, 22), (71, 23), (72, 24), (73, 25), (74, 26), (75, 27)], [(48, 0), (49, 1), (50, 2), (51, 3), (52, 4), (53, 5), (54, 6), (55, 7), (56, 8), (67, 19), (68, 20), (69, 21), (70, 22), (71, 23), (72, 24), (73, 25), (74, 26), (75, 27)], [(48, 0), (49, 1), (50, 2), (51, 3), (52, 4), (53, 5), (54, 6), (55, 7), (56, 8), (57, 9), (60, 12), (61, 13), (62, 14), (63, 15), (64, 16), (65, 17), (66, 18), (67, 19), (68, 20), (69, 21), (70, 22), (71, 23), (72, 24), (73, 25), (74, 26), (75, 27)], [(48, 0), (49, 1), (50, 2), (51, 3), (52, 4), (53, 5), (54, 6), (55, 7), (56, 8), (57, 9), (58, 10), (60, 12), (61, 13), (62, 14), (63, 15), (64, 16), (66, 18), (67, 19), (68, 20), (69, 21), (70, 22), (71, 23), (72, 24), (73, 25), (74, 26), (75, 27)], [(48, 0), (49, 1), (50, 2), (51, 3), (52, 4), (53, 5), (54, 6), (55, 7), (56, 8), (57, 9), (58, 10), (59, 11), (62, 14), (63, 15), (64, 16), (65, 17), (66, 18), (67, 19), (68, 20), (69, 21), (70, 22), (71, 23), (72, 24), (73, 25), (74, 26), (75, 27)], [(48, 0), (49, 1), (50, 2), (51, 3), (52, 4), (53, 5), (54, 6), (55, 7), (56, 8), (57, 9), (58, 10), (59, 11), (60, 12), (63, 15), (64, 16), (65, 17), (66, 18), (67, 19), (68, 20), (69, 21), (70, 22), (71, 23), (72, 24), (73, 25), (74, 26), (75, 27)], [(48, 0), (49, 1), (50, 2), (51, 3), (52, 4), (53, 5), (54, 6), (55, 7), (56, 8), (57, 9), (58, 10), (59, 11), (60, 12), (61, 13), (64, 16), (65, 17), (66, 18), (67, 19), (68, 20), (69, 21), (70, 22), (71, 23), (72, 24), (73, 25), (74, 26), (75, 27)], [(48, 0), (49, 1), (50, 2), (51, 3), (52, 4), (53, 5), (54, 6), (55, 7), (56, 8), (57, 9), (58, 10), (59, 11), (60, 12), (61, 13), (62, 14), (65, 17), (66, 18), (67, 19), (68, 20), (69, 21), (70, 22), (71, 23), (72, 24), (73, 25), (74, 26), (75, 27)], [(48, 0), (49, 1), (50, 2), (51, 3), (52, 4), (53, 5), (54, 6), (55, 7), (56, 8), (57, 9), (58, 10), (59, 11), (60, 12), (61, 13), (62, 14), (63, 15), (66, 18), (67, 19), (68, 20), (69, 21), (70, 22), (71, 23), (72, 24), (73, 25), (74, 26), (75, 27)], [(48, 0), (49, 1), (50, 2), (51, 3), (52, 4), (53, 5), (54, 6), (55, 7), (56, 8), (57, 9), (58, 10), (59, 11), (60, 12), (61, 13), (62, 14), (63, 15), (64, 16), (67, 19), (68, 20), (69, 21), (70, 22), (71, 23), (72, 24), (73, 25), (74, 26), (75, 27)], [(48, 0), (49, 1), (50, 2), (51, 3), (52, 4), (53, 5), (54, 6), (55, 7), (56, 8), (57, 9), (58, 10), (59, 11), (60, 12), (61, 13), (62, 14), (63, 15), (64, 16), (65, 17), (68, 20), (69, 21), (70, 22), (71, 23), (72, 24), (73, 25), (74, 26), (75, 27)], [(48, 0), (49, 1), (50, 2), (51, 3), (52, 4), (53, 5), (54, 6), (55, 7), (56, 8), (57, 9), (58, 10), (59, 11), (60, 12), (61, 13), (62, 14), (63, 15), (64, 16), (65, 17), (66, 18)], [(48, 0), (49, 1), (50, 2), (51, 3), (52, 4), (53, 5), (54, 6), (55, 7), (56, 8), (57, 9), (58, 10), (59, 11), (60, 12), (61, 13), (62, 14), (63, 15), (64, 16), (65, 17), (66, 18), (67, 19), (70, 22), (71, 23), (72, 24), (73, 25), (74, 26), (75, 27)], [(48, 0), (49, 1), (50, 2), (51, 3), (52, 4), (53, 5), (54, 6), (55, 7), (56, 8), (57, 9), (58, 10), (59, 11), (60, 12), (61, 13), (62, 14), (63, 15), (64, 16), (65, 17), (66, 18), (67, 19), (68, 20), (70, 22), (71, 23), (72, 24), (73, 25), (75, 27)], [(48, 0), (49, 1), (50, 2), (51, 3), (52, 4), (53, 5), (54, 6), (55, 7), (56, 8), (57, 9), (58, 10), (59, 11), (60, 12), (61, 13), (62, 14), (63, 15), (64, 16), (65, 17), (66, 18), (67, 19), (68, 20), (69, 21), (72, 24), (73, 25), (74, 26), (75, 27)], [(48, 0), (49, 1), (50, 2), (51, 3), (52, 4), (53, 5), (54, 6), (55, 7), (56, 8), (57, 9), (58, 10), (59, 11), (60, 12), (61, 13), (62, 14), (63, 15), (64, 16), (65, 17), (66, 18), (67, 19), (68, 20), (69, 21), (70, 22), (73, 25), (74, 26), (75, 27)], [(48, 0), (49, 1), (50, 2), (51, 3), (52, 4), (53, 5), (54, 6), (55, 7), (56, 8), (57, 9), (58, 10), (59, 11), (60, 12), (61, 13), (62, 14), (63, 15), (64, 16), (65, 17), (66, 18), (67, 19), (68, 20), (69, 21), (70, 22), (71, 23), (74, 26), (75, 27)], [(48, 0), (49, 1), (50, 2), (51, 3), (52, 4), (53, 5), (54, 6), (55, 7), (56, 8), (57, 9), (58, 10), (59, 11), (60, 12), (61, 13), (62, 14), (63, 15), (64, 16), (65, 17), (66, 18), (67, 19), (68, 20), (69, 21), (70, 22), (71, 23), (72, 24), (75, 27)], [(48, 0), (49, 1), (50, 2), (51, 3), (52, 4), (53, 5), (54, 6), (55, 7), (56, 8), (57, 9), (58, 10), (59, 11), (60, 12), (61, 13), (62, 14), (63, 15), (64, 16), (65, 17), (66, 18), (67, 19), (68, 20), (69, 21), (70, 22), (71, 23), (72, 24), (73, 25)], [(48, 0), (49, 1), (50, 2), (51, 3), (52, 4), (53, 5), (54, 6), (55, 7), (56, 8), (57, 9), (58, 10), (59, 11), (60, 12), (61, 13), (62, 14), (63, 15), (64, 16), (65, 17), (66, 18), (67, 19), (68, 20), (69, 21), (70, 22), (71, 23), (72, 24), (73, 25), (74, 26)]] [(48, 0), (49, 1), (50, 2), (51, 3), (52, 4), (53, 5), (54, 6), (55, 7), (56, 8), (57, 9), (58, 10), (59, 11), (60, 12), (61, 13), (62, 14), (63, 15), (64, 16), (65, 17), (66, 18), (67, 19), (68, 20), (69, 21), (70, 22), (71, 23), (72, 24), (73, 25), (74, 26), (75, 27)]
          [Is (v1), Is (v2), Is (.bool true), Is (.bool false), Is (.bool false), Is (.int .i64 s.2), Is (.int .i64 s.2), Is (.bool false), Is (.bool false), Is (.bool false), Is (bptr p), Is (.int .i64 (s.1.length : Int)), Is (bptr q), Is (bptr q), Is (bptr q), Is (.slice ra s.1.length rc), Is (.int .i64 (s.1.length : Int)), Is (.bool false), Is (.bool false), Is (.bool false), Is (bptr p), Is (.int .i64 s.2), Is (bptr q), Is (bptr q), Is (.pointer (some ⟨q, 2, none⟩)), Is (.int .i64 s.2), Is (.bool false), Is (.bool false)]
          (by kernel_rfl) Grew.trans Grew.refl (Grew.refl _).drew (by kernel_rfl) ⟨is_st, is_st, is_st, is_st, is_st, is_st, is_st, is_st, is_st, is_st, is_st, is_st, is_st, is_st, is_st, is_st, is_st, is_st, is_st, is_st, is_st, is_st, is_st, is_st, is_st, is_st, is_st, is_st, trivial⟩ ⟨?_, ?_, ?_, ?_, ?_, ?_, ?_, ?_, ?_, ?_, ?_, ?_, ?_, ?_, ?_, ?_, ?_, ?_, ?_, ?_, ?_, ?_, ?_, ?_, ?_, ?_, ?_, ?_, trivial⟩ rfl ?_
        · intro y w2 hG hD K hK
          simp only [fillL, Act.put, List.setIfInBounds_toArray, List.set_cons_zero, List.set_cons_succ, List.getD_cons_zero, List.getD_cons_succ, Is] at hK ⊢
          refine ite_yes (by rfl) ?_
          go_simp
          exact hK _ _ _ rfl (Grew.refl _) rfl
        · intro y w2 hG hD K hK
          simp only [fillL, Act.put, List.setIfInBounds_toArray, List.set_cons_zero, List.set_cons_succ, List.getD_cons_zero, List.getD_cons_succ, Is] at hK ⊢
          refine ite_yes (by rfl) ?_
          go_simp
          exact hK _ _ _ rfl (Grew.refl _) rfl
        · intro y w2 hG hD K hK
          simp only [depsH, List.getD_cons_zero, List.getD_cons_succ, Is, and_true] at hD
          have h0 := hD.1
          have h1 := hD.2
          clear hD
          simp only [fillL, Act.put, List.setIfInBounds_toArray, List.set_cons_zero, List.set_cons_succ, List.getD_cons_zero, List.getD_cons_succ, Is] at hK ⊢
          rw [h0, h1] at hK ⊢
          clear h0 h1
          refine ite_yes (by rfl) ?_
          go_simp
          refine (eqBytes_any v1 v2 _ _ (HV1.out.grew hG) (HV2.out.grew hG)).mono ?_
          rw [decide_eq_true (rfl : outS s = outS s)]
          rintro r w3 ⟨rfl, rfl⟩
          exact hK _ _ _ rfl (Grew.refl _) rfl
        · intro y w2 hG hD K hK
          simp only [depsH, List.getD_cons_zero, List.getD_cons_succ, Is, and_true] at hD
          have h2 := hD
          clear hD
          simp only [fillL, Act.put, List.setIfInBounds_toArray, List.set_cons_zero, List.set_cons_succ, List.getD_cons_zero, List.getD_cons_succ, Is] at hK ⊢
          rw [h2] at hK ⊢
          clear h2
          refine ite_yes (by rfl) ?_
          go_simp
          exact hK _ _ _ rfl (Grew.refl _) rfl
        · intro y w2 hG hD K hK
          simp only [depsH, List.getD_cons_zero, List.getD_cons_succ, Is, and_true] at hD
          have h3 := hD
          clear hD
          simp only [fillL, Act.put, List.setIfInBounds_toArray, List.set_cons_zero, List.set_cons_succ, List.getD_cons_zero, List.getD_cons_succ, Is] at hK ⊢
          rw [h3] at hK ⊢
          clear h3
          refine ite_yes (by rfl) ?_
          go_simp
          exact hK _ _ _ rfl (Grew.refl _) rfl
        · intro y w2 hG hD K hK
          simp only [depsH, List.getD_cons_zero, List.getD_cons_succ, Is, and_true] at hD
          have h4 := hD
          clear hD
          simp only [fillL, Act.put, List.setIfInBounds_toArray, List.set_cons_zero, List.set_cons_succ, List.getD_cons_zero, List.getD_cons_succ, Is] at hK ⊢
          rw [h4] at hK ⊢
          clear h4
          refine ite_yes (by rfl) ?_
          go_simp
          exact hK _ _ _ rfl (Grew.refl _) rfl
        · intro y w2 hG hD K hK
          simp only [depsH, List.getD_cons_zero, List.getD_cons_succ, Is, and_true] at hD
          have h4 := hD
          clear hD
          simp only [fillL, Act.put, List.setIfInBounds_toArray, List.set_cons_zero, List.set_cons_succ, List.getD_cons_zero, List.getD_cons_succ, Is] at hK ⊢
          rw [h4] at hK ⊢
          clear h4
          refine ite_yes (by rfl) ?_
          go_simp
          exact hK _ _ _ rfl (Grew.refl _) rfl
        · intro y w2 hG hD K hK
          simp only [depsH, List.getD_cons_zero, List.getD_cons_succ, Is, and_true] at hD
          have h4 := hD.1
          have h5 := hD.2.1
          have h6 := hD.2.2
          clear hD
          simp only [fillL, Act.put, List.setIfInBounds_toArray, List.set_cons_zero, List.set_cons_succ, List.getD_cons_zero, List.getD_cons_succ, Is] at hK ⊢
          rw [h4, h5, h6] at hK ⊢
          clear h4 h5 h6
          refine ite_yes (by rfl) ?_
          go_simp
          exact hK _ _ _ rfl (Grew.refl _) (by simp)
        · intro y w2 hG hD K hK
          simp only [depsH, List.getD_cons_zero, List.getD_cons_succ, Is, and_true] at hD
          have h4 := hD.1
          have h7 := hD.2
          clear hD
          simp only [fillL, Act.put, List.setIfInBounds_toArray, List.set_cons_zero, List.set_cons_succ, List.getD_cons_zero, List.getD_cons_succ, Is] at hK ⊢
          rw [h4, h7] at hK ⊢
          clear h4 h7
          refine ite_yes (by rfl) ?_
          go_simp
          exact hK _ _ _ rfl (Grew.refl _) rfl
        · intro y w2 hG hD K hK
          simp only [depsH, List.getD_cons_zero, List.getD_cons_succ, Is, and_true] at hD
          have h8 := hD
          clear hD
          simp only [fillL, Act.put, List.setIfInBounds_toArray, List.set_cons_zero, List.set_cons_succ, List.getD_cons_zero, List.getD_cons_succ, Is] at hK ⊢
          rw [h8] at hK ⊢
          clear h8
          refine ite_yes (by rfl) ?_
          go_simp
          exact hK _ _ _ rfl (Grew.refl _) rfl
        · intro y w2 hG hD K hK
          simp only [depsH, List.getD_cons_zero, List.getD_cons_succ, Is, and_true] at hD
          have h9 := hD
          clear hD
          simp only [fillL, Act.put, List.setIfInBounds_toArray, List.set_cons_zero, List.set_cons_succ, List.getD_cons_zero, List.getD_cons_succ, Is] at hK ⊢
          rw [h9] at hK ⊢
          clear h9
          refine ite_yes (by rfl) ?_
          go_simp
          exact hK _ _ _ rfl (Grew.refl _) rfl
        · intro y w2 hG hD K hK
          simp only [depsH, List.getD_cons_zero, List.getD_cons_succ, Is, and_true] at hD
          have h9 := hD.1
          have h10 := hD.2
          clear hD
          simp only [fillL, Act.put, List.setIfInBounds_toArray, List.set_cons_zero, List.set_cons_succ, List.getD_cons_zero, List.getD_cons_succ, Is] at hK ⊢
          rw [h9, h10] at hK ⊢
          clear h9 h10
          refine ite_yes (by rfl) ?_
          go_simp
          refine (lenL (HL.out.grew hG).one).mono ?_
          rintro r w3 ⟨rfl, rfl⟩
          exact hK _ _ _ rfl (Grew.refl _) rfl
        · intro y w2 hG hD K hK
          simp only [depsH, List.getD_cons_zero, List.getD_cons_succ, Is, and_true] at hD
          have h9 := hD
          clear hD
          simp only [fillL, Act.put, List.setIfInBounds_toArray, List.set_cons_zero, List.set_cons_succ, List.getD_cons_zero, List.getD_cons_succ, Is] at hK ⊢
          rw [h9] at hK ⊢
          clear h9
          refine ite_yes (by rfl) ?_
          go_simp
          exact hK _ _ _ rfl (Grew.refl _) rfl
        · intro y w2 hG hD K hK
          simp only [depsH, List.getD_cons_zero, List.getD_cons_succ, Is, and_true] at hD
          have h9 := hD.1
          have h12 := hD.2
          clear hD
          simp only [fillL, Act.put, List.setIfInBounds_toArray, List.set_cons_zero, List.set_cons_succ, List.getD_cons_zero, List.getD_cons_succ, Is] at hK ⊢
          rw [h9, h12] at hK ⊢
          clear h9 h12
          refine ite_yes (by rfl) ?_
          go_simp
          exact hK _ _ _ rfl (Grew.refl _) rfl
        · intro y w2 hG hD K hK
          simp only [depsH, List.getD_cons_zero, List.getD_cons_succ, Is, and_true] at hD
          have h9 := hD.1
          have h13 := hD.2
          clear hD
          simp only [fillL, Act.put, List.setIfInBounds_toArray, List.set_cons_zero, List.set_cons_succ, List.getD_cons_zero, List.getD_cons_succ, Is] at hK ⊢
          rw [h9, h13] at hK ⊢
          clear h9 h13
          refine ite_yes (by rfl) ?_
          go_simp
          exact hK _ _ _ rfl (Grew.refl _) rfl
        · intro y w2 hG hD K hK
          simp only [depsH, List.getD_cons_zero, List.getD_cons_succ, Is, and_true] at hD
          have h9 := hD.1
          have h14 := hD.2
          clear hD
          have dcb := hG.cell cb
          have dce := hG.cell ce
          simp only [fillL, Act.put, List.setIfInBounds_toArray, List.set_cons_zero, List.set_cons_succ, List.getD_cons_zero, List.getD_cons_succ, Is] at hK ⊢
          rw [h9, h14] at hK ⊢
          clear h9 h14
          refine ite_yes (by rfl) ?_
          go_simp
          exact hK _ _ _ rfl (Grew.refl _) rfl
        · intro y w2 hG hD K hK
          simp only [depsH, List.getD_cons_zero, List.getD_cons_succ, Is, and_true] at hD
          have h9 := hD.1
          have h15 := hD.2
          clear hD
          simp only [fillL, Act.put, List.setIfInBounds_toArray, List.set_cons_zero, List.set_cons_succ, List.getD_cons_zero, List.getD_cons_succ, Is] at hK ⊢
          rw [h9, h15] at hK ⊢
          clear h9 h15
          refine ite_yes (by rfl) ?_
          go_simp
          exact hK _ _ _ rfl (Grew.refl _) rfl
        · intro y w2 hG hD K hK
          simp only [depsH, List.getD_cons_zero, List.getD_cons_succ, Is, and_true] at hD
          have h9 := hD.1
          have h11 := hD.2.1
          have h16 := hD.2.2
          clear hD
          simp only [fillL, Act.put, List.setIfInBounds_toArray, List.set_cons_zero, List.set_cons_succ, List.getD_cons_zero, List.getD_cons_succ, Is] at hK ⊢
          rw [h9, h11, h16] at hK ⊢
          clear h9 h11 h16
          refine ite_yes (by rfl) ?_
          go_simp
          exact hK _ _ _ rfl (Grew.refl _) (by simp)
        · intro y w2 hG hD K hK
          simp only [depsH, List.getD_cons_zero, List.getD_cons_succ, Is, and_true] at hD
          have h9 := hD.1
          have h17 := hD.2
          clear hD
          simp only [fillL, Act.put, List.setIfInBounds_toArray, List.set_cons_zero, List.set_cons_succ, List.getD_cons_zero, List.getD_cons_succ, Is] at hK ⊢
          rw [h9, h17] at hK ⊢
          clear h9 h17
          refine ite_yes (by rfl) ?_
          go_simp
          exact hK _ _ _ rfl (Grew.refl _) rfl
        · intro y w2 hG hD K hK
          simp only [depsH, List.getD_cons_zero, List.getD_cons_succ, Is, and_true] at hD
          have h18 := hD
          clear hD
          simp only [fillL, Act.put, List.setIfInBounds_toArray, List.set_cons_zero, List.set_cons_succ, List.getD_cons_zero, List.getD_cons_succ, Is] at hK ⊢
          rw [h18] at hK ⊢
          clear h18
          refine ite_yes (by rfl) ?_
          go_simp
          exact hK _ _ _ rfl (Grew.refl _) rfl
        · intro y w2 hG hD K hK
          simp only [depsH, List.getD_cons_zero, List.getD_cons_succ, Is, and_true] at hD
          have h19 := hD
          clear hD
          simp only [fillL, Act.put, List.setIfInBounds_toArray, List.set_cons_zero, List.set_cons_succ, List.getD_cons_zero, List.getD_cons_succ, Is] at hK ⊢
          rw [h19] at hK ⊢
          clear h19
          refine ite_yes (by rfl) ?_
          go_simp
          exact hK _ _ _ rfl (Grew.refl _) rfl
        · intro y w2 hG hD K hK
          simp only [depsH, List.getD_cons_zero, List.getD_cons_succ, Is, and_true] at hD
          have h19 := hD.1
          have h20 := hD.2
          clear hD
          simp only [fillL, Act.put, List.setIfInBounds_toArray, List.set_cons_zero, List.set_cons_succ, List.getD_cons_zero, List.getD_cons_succ, Is] at hK ⊢
          rw [h19, h20] at hK ⊢
          clear h19 h20
          refine ite_yes (by rfl) ?_
          go_simp
          refine (errL (HL.out.grew hG).one).mono ?_
          rintro r w3 ⟨rfl, rfl⟩
          exact hK _ _ _ rfl (Grew.refl _) rfl
        · intro y w2 hG hD K hK
          simp only [depsH, List.getD_cons_zero, List.getD_cons_succ, Is, and_true] at hD
          have h19 := hD
          clear hD
          simp only [fillL, Act.put, List.setIfInBounds_toArray, List.set_cons_zero, List.set_cons_succ, List.getD_cons_zero, List.getD_cons_succ, Is] at hK ⊢
          rw [h19] at hK ⊢
          clear h19
          refine ite_yes (by rfl) ?_
          go_simp
          exact hK _ _ _ rfl (Grew.refl _) rfl
        · intro y w2 hG hD K hK
          simp only [depsH, List.getD_cons_zero, List.getD_cons_succ, Is, and_true] at hD
          have h19 := hD.1
          have h22 := hD.2
          clear hD
          simp only [fillL, Act.put, List.setIfInBounds_toArray, List.set_cons_zero, List.set_cons_succ, List.getD_cons_zero, List.getD_cons_succ, Is] at hK ⊢
          rw [h19, h22] at hK ⊢
          clear h19 h22
          refine ite_yes (by rfl) ?_
          go_simp
          exact hK _ _ _ rfl (Grew.refl _) rfl
        · intro y w2 hG hD K hK
          simp only [depsH, List.getD_cons_zero, List.getD_cons_succ, Is, and_true] at hD
          have h19 := hD.1
          have h23 := hD.2
          clear hD
          simp only [fillL, Act.put, List.setIfInBounds_toArray, List.set_cons_zero, List.set_cons_succ, List.getD_cons_zero, List.getD_cons_succ, Is] at hK ⊢
          rw [h19, h23] at hK ⊢
          clear h19 h23
          refine ite_yes (by rfl) ?_
          go_simp
          exact hK _ _ _ rfl (Grew.refl _) rfl
        · intro y w2 hG hD K hK
          simp only [depsH, List.getD_cons_zero, List.getD_cons_succ, Is, and_true] at hD
          have h19 := hD.1
          have h24 := hD.2
          clear hD
          have dcb := hG.cell cb
          have dce := hG.cell ce
          simp only [fillL, Act.put, List.setIfInBounds_toArray, List.set_cons_zero, List.set_cons_succ, List.getD_cons_zero, List.getD_cons_succ, Is] at hK ⊢
          rw [h19, h24] at hK ⊢
          clear h19 h24
          refine ite_yes (by rfl) ?_
          go_simp
          exact hK _ _ _ rfl (Grew.refl _) rfl
        · intro y w2 hG hD K hK
          simp only [depsH, List.getD_cons_zero, List.getD_cons_succ, Is, and_true] at hD
          have h19 := hD.1
          have h21 := hD.2.1
          have h25 := hD.2.2
          clear hD
          simp only [fillL, Act.put, List.setIfInBounds_toArray, List.set_cons_zero, List.set_cons_succ, List.getD_cons_zero, List.getD_cons_succ, Is] at hK ⊢
          rw [h19, h21, h25] at hK ⊢
          clear h19 h21 h25
          refine ite_yes (by rfl) ?_
          go_simp
          exact hK _ _ _ rfl (Grew.refl _) (by simp)
        · intro y w2 hG hD K hK
          simp only [depsH, List.getD_cons_zero, List.getD_cons_succ, Is, and_true] at hD
          have h19 := hD.1
          have h26 := hD.2
          clear hD
          simp only [fillL, Act.put, List.setIfInBounds_toArray, List.set_cons_zero, List.set_cons_succ, List.getD_cons_zero, List.getD_cons_succ, Is] at hK ⊢
          rw [h19, h26] at hK ⊢
          clear h19 h26
          refine ite_yes (by rfl) ?_
          go_simp
          exact hK _ _ _ rfl (Grew.refl _) rfl
        · intro y w2 hG hF
          simp only [factsH, Is, and_true, Nat.reduceAdd] at hF
          have h0 := hF.1
          have h1 := hF.2.1
          have h2 := hF.2.2.1
          have h3 := hF.2.2.2.1
          have h4 := hF.2.2.2.2.1
          have h5 := hF.2.2.2.2.2.1
          have h6 := hF.2.2.2.2.2.2.1
          have h7 := hF.2.2.2.2.2.2.2.1
          have h8 := hF.2.2.2.2.2.2.2.2.1
          have h9 := hF.2.2.2.2.2.2.2.2.2.1
          have h10 := hF.2.2.2.2.2.2.2.2.2.2.1
          have h11 := hF.2.2.2.2.2.2.2.2.2.2.2.1
          have h12 := hF.2.2.2.2.2.2.2.2.2.2.2.2.1
          have h13 := hF.2.2.2.2.2.2.2.2.2.2.2.2.2.1
          have h14 := hF.2.2.2.2.2.2.2.2.2.2.2.2.2.2.1
          have h15 := hF.2.2.2.2.2.2.2.2.2.2.2.2.2.2.2.1
          have h16 := hF.2.2.2.2.2.2.2.2.2.2.2.2.2.2.2.2.1
          have h17 := hF.2.2.2.2.2.2.2.2.2.2.2.2.2.2.2.2.2.1
          have h18 := hF.2.2.2.2.2.2.2.2.2.2.2.2.2.2.2.2.2.2.1
          have h19 := hF.2.2.2.2.2.2.2.2.2.2.2.2.2.2.2.2.2.2.2.1
          have h20 := hF.2.2.2.2.2.2.2.2.2.2.2.2.2.2.2.2.2.2.2.2.1
          have h21 := hF.2.2.2.2.2.2.2.2.2.2.2.2.2.2.2.2.2.2.2.2.2.1
          have h22 := hF.2.2.2.2.2.2.2.2.2.2.2.2.2.2.2.2.2.2.2.2.2.2.1
          have h23 := hF.2.2.2.2.2.2.2.2.2.2.2.2.2.2.2.2.2.2.2.2.2.2.2.1
          have h24 := hF.2.2.2.2.2.2.2.2.2.2.2.2.2.2.2.2.2.2.2.2.2.2.2.2.1
          have h25 := hF.2.2.2.2.2.2.2.2.2.2.2.2.2.2.2.2.2.2.2.2.2.2.2.2.2.1
          have h26 := hF.2.2.2.2.2.2.2.2.2.2.2.2.2.2.2.2.2.2.2.2.2.2.2.2.2.2.1
          have h27 := hF.2.2.2.2.2.2.2.2.2.2.2.2.2.2.2.2.2.2.2.2.2.2.2.2.2.2.2
          clear hF
          simp only [fillL, Act.put, List.setIfInBounds_toArray, List.set_cons_zero, List.set_cons_succ, List.getD_cons_zero, List.getD_cons_succ, Is]
          rw [h0, h1, h2, h3, h4, h5, h6, h7, h8, h9, h10, h11, h12, h13, h14, h15, h16, h17, h18, h19, h20, h21, h22, h23, h24, h25, h26, h27]
          clear h0 h1 h2 h3 h4 h5 h6 h7 h8 h9 h10 h11 h12 h13 h14 h15 h16 h17 h18 h19 h20 h21 h22 h23 h24 h25 h26 h27
          have hsp := HO.out.kept (Grew.grownBy hG) (by cases v1.ownBlock <;> simp)
          have HG := Lib.hid hG
          have HSP := Lib.hid hsp
          clear hG hsp cb ce
          go_wp2_with fail
          refine (spoil_any v1 (outS s) HSP.out (outS_len HL.out.one)).mono ?_
          rintro r w6 ⟨rfl, hm⟩
          have HF := Lib.hid (HLA.out.spoil (HGA.out.trans HG.out) hm)
          clear hm
          go_wp2
          go_roundw
          case rel => exact ⟨k + 1, by omega, by go_num, s, HF⟩
          case measure => simp [intOf]; omega
      · clear H H2
        go_wp2_with fail
        refine (works_any _).mono ?_
        rintro r w6 ⟨rfl, hb⟩
        have HB := Lib.hid hb
        clear hb
        go_wp2
        go_ret
        exact ⟨rfl, Below.trans HW.out.below (Below.mono HB.out HW.out.below.size)⟩
    · clear H H2
      go_wp2_with fail
      refine (works_any _).mono ?_
      rintro r w6 ⟨rfl, hb⟩
      have HB := Lib.hid hb
      clear hb
      go_wp2
      go_ret
      exact ⟨rfl, Below.trans HW.out.below (Below.mono HB.out HW.out.below.size)⟩

theorem bufPlays_row {H : Type} (enc : TypeId × Value → H) (W : World) (base : Nat) (v0 : Value) (d0 : DataW H) (p0 : List MemPlace) (o0 : Value.okWide Try.prog W .any base 3 v0) (k0 : DataW.Trod enc Try.prog W 0 (fun _ => true) true 3 v0 d0 p0) (v1 : Value) (d1 : DataW H) (p1 : List MemPlace) (o1 : Value.okWide Try.prog W .any base 22 v1) (k1 : DataW.Trod enc Try.prog W 0 (fun _ => true) true 22 v1 d1 p1) :
    Calls Try.prog 3 #[v0, v1] W fun e w' => e = .returned (.bool true) ∧ Below W.heap.size W w' := by
  obtain ⟨m, rfl, _, _, _⟩ := open_int Try.underlying3 o0 k0
  obtain ⟨l, hl, hlen, hok⟩ := open_Dos o1 k1
  exact bufPlays_any m v1 l W hl hlen hok

theorem bufPlays_own : ownKnob Try.prog.godebug = none := by kernel_rfl
theorem bufPlays_laidOut : laidOutB Try.prog = true := by kernel_rfl

set_option maxRecDepth 100000 in
theorem bufPlays_lifted (os : Os) (started : os.Started) (H : Type) (enc : TypeId × Value → H) :
    ReturnsInHanded {} Try.checked os 3 .any (Rows.bufPlaysSpec.pre6 enc Try.prog Try.f3 Rows.bufPlaysRow.domain false) (Rows.bufPlaysSpec.post enc Try.prog Try.f3 false true false false) := by
  refine returnsInHanded_of_change (C := Try.checked) bufPlays_own started (by kernel_rfl) Try.func3
    (ChangeSpec.witness6 (enc := enc) (C := Try.checked) false ⟨#[], #[.int .i64 0, .slice none 0 0], []⟩ 8 (by kernel_rfl) (by kernel_rfl) (by kernel_rfl) (by kernel_rfl)) ?_
  intro W base args ds gs before hval0 hW hcnd _
  have hval : ∀ (j : Nat) t v, Try.f3.params[j]? = some t → args[j]? = some v → Value.okWide Try.prog W .any base t v := hval0
  have hW' := hW
  obtain ⟨p, q, hA0, hV, rfl, hfz, hnd⟩ := hW
  have hA : DataW.TrodAll enc Try.prog W 0 (fun _ => true) true Try.f3.params.toList args.toList ds p := hA0
  rw [Try.params3] at hA hval
  obtain ⟨v0, vs0, d0, ds0, p0, q0, hargs, rfl, rfl, h0, r0⟩ := trodAll_cons hA
  obtain ⟨v1, vs1, d1, ds1, p1, q1, rfl, rfl, rfl, h1, r1⟩ := trodAll_cons r0
  obtain ⟨rfl, rfl, rfl⟩ := trodAll_nil r1
  obtain rfl : args = #[v0, v1] := by cases args; simp_all
  obtain ⟨rfl, rfl⟩ := trodVars_none hV
  have lt0 : ∀ x ∈ p0, x.block < W.heap.size := by obtain ⟨m, hm⟩ := h0; exact DataW.trod_lt m _ _ _ hm
  have lt1 : ∀ x ∈ p1, x.block < W.heap.size := by obtain ⟨m, hm⟩ := h1; exact DataW.trod_lt m _ _ _ hm
  have hw := bufPlays_row enc W base v0 d0 p0 (hval 0 3 v0 rfl rfl) h0 v1 d1 p1 (hval 1 22 v1 rfl rfl) h1
  clear hA0 hval0
  refine hw.mono fun e W' ⟨he, bel⟩ => ?_
  subst he
  exact ⟨_, rfl, _, _, _, [], _, [], hW', trodAll_mk1 (shut_bool Try.underlying4 _), (trodAll_cons_mk (Below.trod bufPlays_laidOut (by kernel_rfl) (of_decide_eq_true (by kernel_rfl)) h0 bel lt0) (trodAll_cons_mk (Below.trod bufPlays_laidOut (by kernel_rfl) (of_decide_eq_true (by kernel_rfl)) h1 bel lt1) trodAll_mk0)), rfl, Below.frame bel _, fun h => by cases h⟩

/-- The statement. -/
theorem bufPlays_holds : Rows.BufPlaysSaid :=
  OpenClaim.holds_of_wide 3 Try.f3 rfl rfl rfl rfl rfl rfl rfl ⟨rfl, rfl, rfl, rfl, rfl⟩ rfl rfl rfl rfl rfl (by kernel_rfl) Try.func3 (by kernel_rfl)
    (of_decide_eq_true (by kernel_rfl)) (by unfold Func.isWrapper; first | (rw [if_pos (by decide +kernel)]; kernel_rfl) | (rw [if_neg (by decide +kernel)]; exact ⟨rfl, rfl⟩))
    (fun os started H enc _ => bufPlays_lifted os started H enc)
end Go.Proofs.Ytejaklkageieoaa
