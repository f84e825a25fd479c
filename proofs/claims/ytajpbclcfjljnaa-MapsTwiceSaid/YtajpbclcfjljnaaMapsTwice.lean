/-
  MapsTwice: two maps can share their keys. Conditions: none beyond the statement's own.
-/
import Derived.Test.YtajpbclcfjljnaaRows
import Derived.Test.YtajpbclcfjljnaaPAU
import Derived.Test.YtajpbclcfjljnaaPAS
import Derived.Deep.QuietTactic
import Derived.BigQuiet
import Derived.ProofKit
import Derived.OpenShut
import Derived.ShutString
import Derived.ChangeOld
import Derived.Below
import Derived.Lib.SmallJoins
import Derived.Test.YtajpbclcfjljnaaPAA
import Derived.Test.YtajpbclcfjljnaaPAT
namespace Go.Proofs.Ytajpbclcfjljnaa
open Go Go.ChangeShapes Go.WideShapes Go.ChangeAt Go.RowKit Go.Joins Go.Deep
open Go.Proofs.Ytajpbclcfjljnaa.Ft (V3 vV okV ValsAt inlineB legalB packF codeF typedF allF)
set_option linter.unusedVariables false
set_option linter.unusedSimpArgs false

set_option maxRecDepth 100000 in
set_option maxHeartbeats 8000000 in
theorem mapsTwice_any (lv mv : Value) (l m : List (Int × Int)) (W : World) (hpl : PairsAt W lv l) (hpm : PairsAt W mv m) (hll : l.length ≤ 9223372036854775807) (hlm : m.length ≤ 9223372036854775807) (hcl : ∀ ad n c, lv = .slice ad n c → n ≤ c) (hcm : ∀ ad n c, mv = .slice ad n c → n ≤ c) :
    Calls Try.prog 5 #[lv, mv] W fun r w' => r = .returned (.bool true) ∧ Below W.heap.size W w' := by
  have HPL0 := Lib.hid hpl
  have HPM0 := Lib.hid hpm
  obtain ⟨la, lc, rfl, h⟩ := hpl
  clear h
  obtain ⟨ma, mc, rfl, h⟩ := hpm
  clear h
  have hc1 := hcl la l.length lc rfl
  have hc2 := hcm ma m.length mc rfl
  clear hcl hcm
  obtain ⟨k1, hk1⟩ : ∃ k : Nat, min l.length 60 = k := ⟨_, rfl⟩
  obtain ⟨k2, hk2⟩ : ∃ k : Nat, min m.length 60 = k := ⟨_, rfl⟩
  have HPL : Hid (∀ c2, PairsAt W (.slice la k1 c2) (l.take k1)) := fun c2 => HPL0.out.cut k1 (by omega) c2
  have HPM : Hid (∀ c2, PairsAt W (.slice ma k2 c2) (m.take k2)) := fun c2 => HPM0.out.cut k2 (by omega) c2
  have hL1 : (l.take k1).length ≤ 60 := by rw [List.length_take]; omega
  have hL2 : (m.take k2).length ≤ 60 := by rw [List.length_take]; omega
  have hk1' : k1 ≤ 60 := by omega
  have hk2' : k2 ≤ 60 := by omega
  have hkl : k1 ≤ l.length := by omega
  have hkm : k2 ≤ m.length := by omega
  have HRR : Hid (min (l.length : Int) 60 = (k1 : Int) ∧ min (m.length : Int) 60 = (k2 : Int)) := by show _ ∧ _; omega
  clear hk1 hk2
  have HNL : Hid (∀ v ∈ valsM (l.take k1) 4, Near 4 v) := near_valsM _ 4 (by omega) (by omega)
  have HNM : Hid (∀ v ∈ valsM (m.take k2) 4, Near 4 v) := near_valsM _ 4 (by omega) (by omega)
  have HMK : Hid (∀ u ∈ valsM (m.take k2) 4, u.1 ≠ 0) := valM_kind _
  have hl3 : (valsM (l.take k1) 4).length ≤ 60 := by rw [valsM_length]; omega
  have hm3 : (valsM (m.take k2) 4).length ≤ 60 := by rw [valsM_length]; omega
  obtain ⟨L, hL⟩ : ∃ L, valsM (l.take k1) 4 = L := ⟨_, rfl⟩
  obtain ⟨M, hM⟩ : ∃ M, valsM (m.take k2) 4 = M := ⟨_, rfl⟩
  rw [hL] at HNL hl3
  rw [hM] at HNM HMK hm3
  have HL := Lib.hid hL
  have HM := Lib.hid hM
  have HLL : Hid (L.length ≤ 60) := hl3
  have HML : Hid (M.length ≤ 60) := hm3
  clear hL hM hl3 hm3
  obtain ⟨x1, p1, X1, x2, p2, X2, hw1, hw2, hq1, hq2, hz1, hz2, g0, g1, g2, g5, g3, g4, hd1, hd2⟩ := twice_plain HNL.out HNM.out HLL.out HML.out
  obtain ⟨M2, hM2⟩ : ∃ M2, M ++ [((9, x1, p1) : V3)] = M2 := ⟨_, rfl⟩
  rw [hM2] at hq2
  have HM2 := Lib.hid hM2
  have HML2 : Hid (M2.length ≤ 61) := by show _ ≤ _; rw [← hM2, List.length_append, List.length_singleton]; have := HML.out; omega
  have HQ1 := Lib.hid hq1
  have HQ2 := Lib.hid hq2
  have HX1 : Hid (X1.length ≤ 2000) := hz1
  have HX2 : Hid (X2.length ≤ 5000) := hz2
  have HX2L : Hid (p2 ≤ (X2.length : Int)) := g5
  clear g5
  have HLD1 := Lib.hid hd1
  have HLD2 := Lib.hid hd2
  have hb1 := isW_pos hw1
  have hb2 := isW_pos hw2
  have HOKL := Lib.hid (okV_vals HNL.out)
  have HOKM : Hid (∀ v ∈ M2, okV v) := fun v hv => by
    rw [← hM2] at hv
    rcases List.mem_append.1 hv with hv | hv
    · exact okV_vals HNM.out v hv
    · rw [List.mem_singleton.1 hv]; exact ⟨g0, by show p1 ≤ _; omega⟩
  clear hw1 hw2 hq1 hq2 hz1 hz2 hd1 hd2 hM2
  go_enter Try.func5, Try.ntmps5
  go_wp2_with fail
  go_quiet (fail)
  rw [HRR.out.1, HRR.out.2, Int.toNat_natCast, Int.toNat_natCast]
  generalize hWd : W.drewN _ = w0
  have HGd : Hid (Grew W w0) := by subst hWd; exact (Grew.refl W).drewN _
  clear hWd
  go_wp2_with fail
  refine (newL (w0 := w0) 1048576 (Below.refl _ _)).mono ?_
  rintro r w1 ⟨rfl, hl, _, _⟩
  rw [show roomOf 1048576 = 1048576 by decide] at hl
  have HL1 := Lib.hid hl
  clear hl
  go_wp2_with fail
  refine (textL1 ⟨#[97, 0, 98, 0]⟩ _ rfl (by decide) HL1.out).mono ?_
  rintro r w2 ⟨rfl, hl⟩
  rw [show putS 1048576 (bytesS [⟨#[97, 0, 98, 0]⟩]) ([], 0) = ([97, 0, 98, 0], 0) by kernel_rfl] at hl
  have HL2 := Lib.hid hl
  clear hl HL1
  go_wp2_with fail
  refine (key18_any 0 _).mono ?_
  rintro r w3 ⟨rfl, hg3⟩
  have HL3 := Lib.hid (HL2.out.grew hg3)
  clear hg3 HL2
  go_wp2_with fail
  refine (key18_any 2 _).mono ?_
  rintro r w3b ⟨rfl, hg3⟩
  have HL3b := Lib.hid (HL3.out.grew hg3)
  clear hg3 HL3
  go_wp2_with fail
  have hga := (Grew.refl w3b).alloc (.cells #[.int .i64 4, .int .i64 1, .int .u64 0, .int .i64 4, .int .i64 1, .int .u64 2] 30)
  have hra := heap_alloc_new w3b (.cells #[.int .i64 4, .int .i64 1, .int .u64 0, .int .i64 4, .int .i64 1, .int .u64 2] 30)
  obtain ⟨o1, b1, e1, q1, r1⟩ := HL3b.out
  refine (keysPut_any ([97, 0, 98, 0], 0) _ [(4, 1, 0), (4, 1, 2)] (b1.grew hga) (Nat.le_trans e1.size hga.size) q1 r1 (valsRow2 hra) (by decide) (fun v hv => by simp only [List.mem_cons, List.not_mem_nil, or_false] at hv; rcases hv with rfl | rfl <;> exact ⟨by decide, by decide⟩) ?_ rfl).mono ?_
  · intro ad n' c' e
    cases e
    exact ⟨(Array.getElem?_eq_some_iff.1 hra).1, fun hq => absurd (b1.lt _ hq) (Nat.lt_irrefl _)⟩
  rw [mexT]
  rintro r w4a ⟨rfl, ht⟩
  have HL4 := Lib.hid (Live.turn (s' := (keysB, 0)) (b1.grew hga) (Below.trans e1 (Below.mono hga e1.size)) ht (by decide) r1)
  rw [show putV (((14, 1, 5), 0) : V3 × Int) = .tuple #[.agg #[.int .i64 14, .int .i64 1, .int .u64 5], .int .i64 0] from rfl]
  clear ht b1 e1 q1 r1 hga hra HL3b
  go_wp2_with fail
  have hg4 := (Grew.refl w4a).alloc (rowV (14, 1, 5))
  have hr4 := heap_alloc_new w4a (rowV (14, 1, 5))
  generalize (w4a.alloc (rowV (14, 1, 5))) = w4 at *
  have HR4 := Lib.hid hr4
  have HL5 := Lib.hid (HL4.out.grew hg4)
  obtain ⟨ka, hka⟩ : ∃ g, w4a.heap.size = g := ⟨_, rfl⟩
  rw [hka] at HR4 ⊢
  clear hg4 hr4 HL4 hka
  obtain ⟨o, hb, hbel, h3, h4⟩ := HL5.out
  have HB := Lib.hid hb
  have HBEL := Lib.hid hbel
  have HS : Hid (∀ k, Own2 w0.heap.size o k → k < w4.heap.size) := hb.lt
  have HW0w4 : Hid (w0.heap.size ≤ w4.heap.size) := hbel.size
  have HGW : Hid (Grew W w4) := HGd.out.trans hbel
  have HSZP : Hid (∀ w9 p, TwW w4 (Own2 w0.heap.size o) (fun w' => Live w0 w' w0.heap.size 1048576 (X1, 0)) 1 p w9 → w4.heap.size ≤ w9.heap.size) := fun w9 p h => by unfold TwW at h; split at h; exact h.size; exact h.1.size
  have HKC : Hid (∀ w9 p, TwW w4 (Own2 w0.heap.size o) (fun w' => Live w0 w' w0.heap.size 1048576 (X1, 0)) 1 p w9 → w9.cell? ⟨ka, 0, none⟩ = some (.int .i64 14) ∧ w9.cell? ⟨ka, 1, none⟩ = some (.int .i64 1) ∧ w9.cell? ⟨ka, 2, none⟩ = some (.int .u64 5)) := fun w9 p h => by
      have hr : w9.heap[ka]? = some (rowV (14, 1, 5)) := by
        unfold TwW at h; split at h
        · exact Grew.heap h HR4.out
        · exact Moved.heap h.1 HR4.out (hb.not_row HR4.out)
      exact ⟨row_cell hr 0 _ rfl, row_cell hr 1 _ rfl, row_cell hr 2 _ rfl⟩
  skip
  clear h3 h4 hb hbel
  refine wp_region_phases [4, 9] (TwW w4 (Own2 w0.heap.size o) (fun w' => Live w0 w' w0.heap.size 1048576 (X1, 0)) 1) (fun _ w w' => Grew w w') (TwT (Own2 w0.heap.size o) (9, x1, p1) 3 8 1 2) [[], [], [], [2], [0, 1, 2, 3], [0, 1, 2, 3, 4], [0, 1, 2, 3, 4, 5], [0, 1, 2, 3, 4, 5], [], [0, 1, 2, 3, 4, 5, 6, 8], [0, 1, 2, 3, 4, 5, 6, 7, 8, 9]] [[(43, 1), (44, 2), (45, 3), (8, 8)], [(42, 0), (44, 2), (45, 3), (8, 8)], [(42, 0), (43, 1), (8, 8)], [(42, 0), (43, 1), (44, 2), (8, 8)], [(42, 0), (43, 1), (44, 2), (45, 3), (8, 8)], [(42, 0), (43, 1), (44, 2), (45, 3), (46, 4), (8, 8)], [(42, 0), (43, 1), (44, 2), (45, 3), (46, 4), (41, 5), (48, 7), (8, 8)], [(42, 0), (43, 1), (44, 2), (45, 3), (46, 4), (41, 5), (47, 6), (8, 8)], [(42, 0), (43, 1), (44, 2), (45, 3), (46, 4), (41, 5), (47, 6), (48, 7)], [(42, 0), (43, 1), (44, 2), (45, 3), (46, 4), (41, 5), (47, 6), (48, 7), (8, 8)], [(42, 0), (43, 1), (44, 2), (45, 3), (46, 4), (41, 5), (47, 6), (48, 7), (8, 8)]] [(42, 0), (43, 1), (44, 2), (45, 3), (46, 4), (41, 5), (47, 6), (48, 7), (8, 8), (9, 10)]
    [IsP (bptr w0.heap.size), IsP (.agg #[.int .i64 14, .int .i64 1, .int .u64 5]), IsP (.slice la k1 lc), Til (fun v w => OwnVals w w4.heap.size v L), IsP (.tuple #[.agg #[.int .i64 9, .int .i64 x1, .int .u64 p1], .int .i64 0]), IsP (.tuple #[.agg #[.int .i64 9, .int .i64 x1, .int .u64 p1], .int .i64 0]), IsP (.agg #[.int .i64 9, .int .i64 x1, .int .u64 p1]), IsP (.int .i64 0), TwP w4 (9, x1, p1) 2, fun _ _ _ => True, IsP (.int .i64 0)]
    (by kernel_rfl) (TwW.grew (fun w1 w2 hg h => Live.grew h hg)) ((Grew.refl _).drew) (by kernel_rfl) (by kernel_rfl) ⟨isP_st, isP_st, isP_st, Til.st (fun v w w' hg h => own_grew h hg), isP_st, isP_st, isP_st, isP_st, TwP.st HS.out, ⟨fun _ _ _ _ _ h => h, fun _ _ _ _ _ h => h⟩, isP_st, trivial⟩ rfl ?_ ?_
  · intro y w9 hW hF
    simp only [factsP, IsP, Nat.reduceAdd, List.length_cons, List.length_nil] at hF hW
    have h0 := hF.1
    have h1 := hF.2.1
    have h2 := hF.2.2.1
    have h3 := hF.2.2.2.1
    have h4 := hF.2.2.2.2.1
    have h5 := hF.2.2.2.2.2.1
    have h6 := hF.2.2.2.2.2.2.1
    have h7 := hF.2.2.2.2.2.2.2.1
    have h8 := hF.2.2.2.2.2.2.2.2.1
    have h10 := hF.2.2.2.2.2.2.2.2.2.2.1
    clear hF
    simp only [fillL, Act.put, List.setIfInBounds_toArray, List.set_cons_zero, List.set_cons_succ, List.getD_cons_zero, List.getD_cons_succ]
    simp only [h0, h1, h2, h4, h5, h6, h7, h10]
    clear h0 h1 h2 h4 h5 h6 h7 h10
    have hw : Moved (Own2 w0.heap.size o) w4 w9 ∧ Live w0 w9 w0.heap.size 1048576 (X1, 0) := hW
    obtain ⟨xa, hxa, hxB, hxr⟩ : ∃ g, y 8 = .pointer (some ⟨g, 0, none⟩) ∧ w4.heap.size ≤ g ∧ w9.heap[g]? = some (rowV (9, x1, p1)) := by obtain ⟨g, a, b, c⟩ := h8; exact ⟨g, a, b, c⟩
    rw [hxa]
    have HR5 : Hid (w9.heap[ka]? = some (rowV (14, 1, 5))) := hw.1.heap HR4.out (HB.out.not_row HR4.out)
    have HX5 : Hid (w9.heap[xa]? = some (rowV (9, x1, p1))) := hxr
    have HL6 := Lib.hid hw.2
    clear hW hw h3 h8 hxr hxa hxB HSZP HKC HB HBEL HS HW0w4 HGW HR4 HL5
    skip
    obtain ⟨w5, hw5⟩ : ∃ w5, w9 = w5 := ⟨_, rfl⟩
    rw [hw5] at HR5 HX5 HL6 ⊢
    clear hw5
    obtain ⟨o, hb, hbel, h3, h4⟩ := HL6.out
    have HB := Lib.hid hb
    have HBEL := Lib.hid hbel
    have HS : Hid (∀ k, Own2 w0.heap.size o k → k < w5.heap.size) := hb.lt
    have HW0w5 : Hid (w0.heap.size ≤ w5.heap.size) := hbel.size
    have HGW : Hid (Grew W w5) := HGd.out.trans hbel
    have HSZP : Hid (∀ w9 p, TwW w5 (Own2 w0.heap.size o) (fun w' => Live w0 w' w0.heap.size 1048576 (X2, 0)) 2 p w9 → w5.heap.size ≤ w9.heap.size) := fun w9 p h => by unfold TwW at h; split at h; exact h.size; exact h.1.size
    have HKC : Hid (∀ w9 p, TwW w5 (Own2 w0.heap.size o) (fun w' => Live w0 w' w0.heap.size 1048576 (X2, 0)) 2 p w9 → w9.cell? ⟨ka, 0, none⟩ = some (.int .i64 14) ∧ w9.cell? ⟨ka, 1, none⟩ = some (.int .i64 1) ∧ w9.cell? ⟨ka, 2, none⟩ = some (.int .u64 5)) := fun w9 p h => by
        have hr : w9.heap[ka]? = some (rowV (14, 1, 5)) := by
          unfold TwW at h; split at h
          · exact Grew.heap h HR5.out
          · exact Moved.heap h.1 HR5.out (hb.not_row HR5.out)
        exact ⟨row_cell hr 0 _ rfl, row_cell hr 1 _ rfl, row_cell hr 2 _ rfl⟩
    have HXC : Hid (∀ w9 p, TwW w5 (Own2 w0.heap.size o) (fun w' => Live w0 w' w0.heap.size 1048576 (X2, 0)) 2 p w9 → w9.cell? ⟨xa, 0, none⟩ = some (.int .i64 9) ∧ w9.cell? ⟨xa, 1, none⟩ = some (.int .i64 x1) ∧ w9.cell? ⟨xa, 2, none⟩ = some (.int .u64 p1)) := fun w9 p h => by
        have hr : w9.heap[xa]? = some (rowV (9, x1, p1)) := by
          unfold TwW at h; split at h
          · exact Grew.heap h HX5.out
          · exact Moved.heap h.1 HX5.out (hb.not_row HX5.out)
        exact ⟨row_cell hr 0 _ rfl, row_cell hr 1 _ rfl, row_cell hr 2 _ rfl⟩
    skip
    clear h3 h4 hb hbel
    go_wp2_with fail
    refine wp_region_phases [6, 7, 12] (TwW w5 (Own2 w0.heap.size o) (fun w' => Live w0 w' w0.heap.size 1048576 (X2, 0)) 2) (fun _ w w' => Grew w w') (TwT (Own2 w0.heap.size o) (9, x2, p2) 3 11 2 3) [[], [], [], [2], [], [4], [2, 3, 4, 5], [0, 1, 2, 3, 4, 5, 6], [0, 1, 2, 3, 4, 5, 6, 7], [0, 1, 2, 3, 4, 5, 6, 7, 8], [0, 1, 2, 3, 4, 5, 6, 7, 8], [], [0, 1, 2, 3, 4, 5, 6, 7, 8, 9, 11], [0, 1, 2, 3, 4, 5, 6, 7, 8, 9, 10, 11, 12]] [[(51, 1), (52, 2), (53, 3), (54, 4), (55, 5), (56, 6), (10, 11)], [(50, 0), (52, 2), (53, 3), (54, 4), (55, 5), (56, 6), (10, 11)], [(50, 0), (51, 1), (54, 4), (55, 5), (10, 11)], [(50, 0), (51, 1), (52, 2), (54, 4), (55, 5), (10, 11)], [(50, 0), (51, 1), (52, 2), (53, 3), (10, 11)], [(50, 0), (51, 1), (52, 2), (53, 3), (54, 4), (10, 11)], [(50, 0), (51, 1), (52, 2), (53, 3), (54, 4), (55, 5), (10, 11)], [(50, 0), (51, 1), (52, 2), (53, 3), (54, 4), (55, 5), (56, 6), (10, 11)], [(50, 0), (51, 1), (52, 2), (53, 3), (54, 4), (55, 5), (56, 6), (57, 7), (10, 11)], [(50, 0), (51, 1), (52, 2), (53, 3), (54, 4), (55, 5), (56, 6), (57, 7), (49, 8), (59, 10), (10, 11)], [(50, 0), (51, 1), (52, 2), (53, 3), (54, 4), (55, 5), (56, 6), (57, 7), (49, 8), (58, 9), (10, 11)], [(50, 0), (51, 1), (52, 2), (53, 3), (54, 4), (55, 5), (56, 6), (57, 7), (49, 8), (58, 9), (59, 10)], [(50, 0), (51, 1), (52, 2), (53, 3), (54, 4), (55, 5), (56, 6), (57, 7), (49, 8), (58, 9), (59, 10), (10, 11)], [(50, 0), (51, 1), (52, 2), (53, 3), (54, 4), (55, 5), (56, 6), (57, 7), (49, 8), (58, 9), (59, 10), (10, 11)]] [(50, 0), (51, 1), (52, 2), (53, 3), (54, 4), (55, 5), (56, 6), (57, 7), (49, 8), (58, 9), (59, 10), (10, 11), (11, 13)]
      [IsP (bptr w0.heap.size), IsP (.agg #[.int .i64 14, .int .i64 1, .int .u64 5]), IsP (.slice ma k2 mc), Til (fun v w => OwnVals w w5.heap.size v M ∧ ∀ k, v.ownBlock = some k → w.heap[k]? ≠ some Z0), IsP (.agg #[.int .i64 9, .int .i64 x1, .int .u64 p1]), Til (fun v w => ∃ g, v = .slice (some ⟨g, 0, none⟩) 1 1 ∧ w.heap[g]? = some (rowV (9, x1, p1))), Nxt (fun v w => OwnVals w w5.heap.size v M2), IsP (.tuple #[.agg #[.int .i64 9, .int .i64 x2, .int .u64 p2], .int .i64 0]), IsP (.tuple #[.agg #[.int .i64 9, .int .i64 x2, .int .u64 p2], .int .i64 0]), IsP (.agg #[.int .i64 9, .int .i64 x2, .int .u64 p2]), IsP (.int .i64 0), TwP w5 (9, x2, p2) 3, fun _ _ _ => True, IsP (.int .i64 0)]
      (by kernel_rfl) (TwW.grew (fun w1 w2 hg h => Live.grew h hg)) ((Grew.refl _).drew) (by kernel_rfl) (by kernel_rfl) ⟨isP_st, isP_st, isP_st, Til.st (fun v w w' hg h => ⟨own_grew h.1 hg, fun k hk e => h.2 k hk (by have h1 := (World.ownsRow.lt h.1 k hk).2; rw [← hg.block k h1]; exact e)⟩), isP_st, Til.st (fun v w w' hg h => h.elim fun g h => ⟨g, h.1, Grew.heap hg h.2⟩), Nxt.st (fun v w w' hg h => own_grew h hg), isP_st, isP_st, isP_st, isP_st, TwP.st HS.out, ⟨fun _ _ _ _ _ h => h, fun _ _ _ _ _ h => h⟩, isP_st, trivial⟩ rfl ?_ ?_
    · intro y w9 hW hF
      simp only [factsP, IsP, Nat.reduceAdd, List.length_cons, List.length_nil] at hF hW
      have h0 := hF.1
      have h1 := hF.2.1
      have h2 := hF.2.2.1
      have h3 := hF.2.2.2.1
      have h4 := hF.2.2.2.2.1
      have h5 := hF.2.2.2.2.2.1
      have h6 := hF.2.2.2.2.2.2.1
      have h7 := hF.2.2.2.2.2.2.2.1
      have h8 := hF.2.2.2.2.2.2.2.2.1
      have h9 := hF.2.2.2.2.2.2.2.2.2.1
      have h10 := hF.2.2.2.2.2.2.2.2.2.2.1
      have h11 := hF.2.2.2.2.2.2.2.2.2.2.2.1
      have h13 := hF.2.2.2.2.2.2.2.2.2.2.2.2.2.1
      clear hF
      simp only [fillL, Act.put, List.setIfInBounds_toArray, List.set_cons_zero, List.set_cons_succ, List.getD_cons_zero, List.getD_cons_succ]
      simp only [h0, h1, h2, h4, h7, h8, h9, h10, h13]
      clear h0 h1 h2 h4 h7 h8 h9 h10 h13
      have hw : Moved (Own2 w0.heap.size o) w5 w9 ∧ Live w0 w9 w0.heap.size 1048576 (X2, 0) := hW
      obtain ⟨ya, hya, hyB, hyr⟩ : ∃ g, y 11 = .pointer (some ⟨g, 0, none⟩) ∧ w5.heap.size ≤ g ∧ w9.heap[g]? = some (rowV (9, x2, p2)) := by obtain ⟨g, a, b, c⟩ := h11; exact ⟨g, a, b, c⟩
      rw [hya]
      have HR6 : Hid (w9.heap[ka]? = some (rowV (14, 1, 5))) := hw.1.heap HR5.out (HB.out.not_row HR5.out)
      have HX6 : Hid (w9.heap[xa]? = some (rowV (9, x1, p1))) := hw.1.heap HX5.out (HB.out.not_row HX5.out)
      have HY6 : Hid (w9.heap[ya]? = some (rowV (9, x2, p2))) := hyr
      have HLV := Lib.hid hw.2
      clear hW hw h3 h5 h6 h11 hyr hya hyB HSZP HKC HXC HB HBEL HS HW0w5 HGW HR5 HX5 HL6
      go_wp2_with fail
      refine (bytesL HLV.out).mono ?_
      rintro r w6 ⟨vb, rfl, hvb, _, hg6⟩
      replace hvb : BytesAt w6 vb X2 := hvb
      obtain ⟨bl, off, cbb, rfl, hcb, hbl⟩ := bytes_formT hvb (by have := HX2L.out; omega)
      have hyl : X2.length ≤ 5000 := HX2.out
      have hk6 := hg6.heap HR6.out
      have hx6 := hg6.heap HX6.out
      have hy6 := hg6.heap HY6.out
      have HRK := Lib.hid hk6
      have HRX := Lib.hid hx6
      have HRY := Lib.hid hy6
      have HVB := Lib.hid hvb
      have HBL := Lib.hid hbl
      have HG6 : Hid (Grew W w6) := HGd.out.trans (Grew.trans HLV.out.below hg6)
      have cx0 := row_cell hx6 0 _ rfl
      have cx1 := row_cell hx6 1 _ rfl
      have cx2 := row_cell hx6 2 _ rfl
      have cy0 := row_cell hy6 0 _ rfl
      have cy1 := row_cell hy6 1 _ rfl
      have cy2 := row_cell hy6 2 _ rfl
      clear hvb hbl hg6 hk6 hx6 hy6 HR6 HX6 HY6 HLV
      go_wp2_with fail
      have hg7 := (Grew.refl w6).alloc (.cells #[.int .i64 9, .int .i64 x1, .int .u64 p1, .int .i64 9, .int .i64 x2, .int .u64 p2] 30)
      have ht7 := heap_alloc_new w6 (.cells #[.int .i64 9, .int .i64 x1, .int .u64 p1, .int .i64 9, .int .i64 x2, .int .u64 p2] 30)
      skip
      generalize (w6.alloc (.cells #[.int .i64 9, .int .i64 x1, .int .u64 p1, .int .i64 9, .int .i64 x2, .int .u64 p2] 30)) = w7 at *
      obtain ⟨ta, hta⟩ : ∃ g, w6.heap.size = g := ⟨_, rfl⟩
      rw [hta] at ht7 ⊢
      have HT7 := Lib.hid ht7
      have HRK7 := Lib.hid (hg7.heap HRK.out)
      have HVB7 := Lib.hid (HVB.out.grew hg7)
      have HBL7 : Hid (bl < w7.heap.size) := Nat.lt_of_lt_of_le HBL.out hg7.size
      have HG7 : Hid (Grew W w7) := HG6.out.trans hg7
      clear ht7 hg7 hta HRK HRX HRY HVB HBL HG6 cx0 cx1 cx2 cy0 cy1 cy2
      go_loopw [15] (fun i wr => ∃ k : Nat, k ≤ 2 ∧ i = .int .i64 k ∧ Hid (Grew w7 wr)) (fun i _ => 2 - (intOf i).toNat)
      case atStart => exact ⟨0, Nat.zero_le _, rfl, Grew.refl _⟩
      case round =>
        obtain ⟨k, hk, rfl, HW⟩ := hrel
        have hrt := HW.out.heap HT7.out
        have hrk := HW.out.heap HRK7.out
        have HGR : Hid (Grew W wr) := HG7.out.trans HW.out
        have k2' := row_cell hrk 2 _ rfl
        have t0 := row_cell hrt 0 _ rfl
        have t1 := row_cell hrt 1 _ rfl
        have t2 := row_cell hrt 2 _ rfl
        have t3 := row_cell hrt 3 _ rfl
        have t4 := row_cell hrt 4 _ rfl
        have t5 := row_cell hrt 5 _ rfl
        clear hrt hrk
        rcases (show k = 0 ∨ k = 1 ∨ k = 2 by omega) with rfl | rfl | rfl
        · go_wp2_with fail
          go_quiet (fail)
          go_wp2_with fail
          refine (load_any _ X2 (HVB7.out.grew (HW.out.trans ((Grew.refl _).drewN _))) (by omega) (p1 - 3 * x1) x1 (by omega) (by intro ad n' c' e; cases e; exact Nat.lt_of_lt_of_le HBL7.out (HW.out.trans ((Grew.refl _).drewN _)).size)).mono ?_
          rw [HLD1.out]
          rintro r w8 ⟨rfl, hg8⟩
          have HK8 : Hid (Grew w7 w8) := (HW.out.trans ((Grew.refl _).drewN _)).trans hg8
          have k3 := row_cell (HK8.out.heap HRK7.out) 2 _ rfl
          have hw9 : IntKind.u64.wrap (p1 - 3 * x1 - (p1 - 3 * x1 - 5)) = 5 := by rw [IntKind.wrap_u64]; omega
          clear hg8 k2' t0 t1 t2 t3 t4 t5
          go_wp2_with fail
          go_roundw
          case rel => exact ⟨1, by omega, by go_num, HK8.out⟩
          case measure => simp [intOf]
        · go_wp2_with fail
          go_quiet (fail)
          go_wp2_with fail
          refine (load_any _ X2 (HVB7.out.grew (HW.out.trans ((Grew.refl _).drewN _))) (by omega) (p2 - 3 * x2) x2 (by omega) (by intro ad n' c' e; cases e; exact Nat.lt_of_lt_of_le HBL7.out (HW.out.trans ((Grew.refl _).drewN _)).size)).mono ?_
          rw [HLD2.out]
          rintro r w8 ⟨rfl, hg8⟩
          have HK8 : Hid (Grew w7 w8) := (HW.out.trans ((Grew.refl _).drewN _)).trans hg8
          have k3 := row_cell (HK8.out.heap HRK7.out) 2 _ rfl
          have hw9 : IntKind.u64.wrap (p2 - 3 * x2 - (p2 - 3 * x2 - 5)) = 5 := by rw [IntKind.wrap_u64]; omega
          clear hg8 k2' t0 t1 t2 t3 t4 t5
          go_wp2_with fail
          go_roundw
          case rel => exact ⟨2, by omega, by go_num, HK8.out⟩
          case measure => simp [intOf]
        · go_wp2_with fail
          refine (works18_any _).mono ?_
          rintro r w8 ⟨rfl, hg8⟩
          have HG8 : Hid (Grew W w8) := HGR.out.trans hg8
          clear hg8
          go_wp2
          go_ret
          exact ⟨rfl, HG8.out⟩
    refine ⟨?_, ?_⟩
    · refine wordP_read 0 1 (by kernel_rfl) (by kernel_rfl) (by kernel_rfl) ?_
      intro y w9 p hlo hhi hW hD K hK
      clear hD
      generalize hAA : fillL y _ _ = AA at hK ⊢
      simp only [fillL, Act.put, List.setIfInBounds_toArray, List.set_cons_zero, List.set_cons_succ, List.getD_cons_zero, List.getD_cons_succ, IsP] at hAA
      subst hAA
      simp only [List.getD_cons_zero, List.getD_cons_succ, IsP] at hK
      refine ite_yes (by rfl) ?_
      go_simp
      exact hK _ _ _ rfl (Grew.refl _) rfl
    refine ⟨?_, ?_⟩
    · refine wordP_read 0 1 (by kernel_rfl) (by kernel_rfl) (by kernel_rfl) ?_
      intro y w9 p hlo hhi hW hD K hK
      have c0 := (HKC.out w9 p hW).1
      have c1 := (HKC.out w9 p hW).2.1
      have c2 := (HKC.out w9 p hW).2.2
      clear hD
      generalize hAA : fillL y _ _ = AA at hK ⊢
      simp only [fillL, Act.put, List.setIfInBounds_toArray, List.set_cons_zero, List.set_cons_succ, List.getD_cons_zero, List.getD_cons_succ, IsP] at hAA
      subst hAA
      simp only [List.getD_cons_zero, List.getD_cons_succ, IsP] at hK
      refine ite_yes (by rfl) ?_
      go_simp
      exact hK _ _ _ rfl (Grew.refl _) rfl
    refine ⟨?_, ?_⟩
    · refine wordP_read 0 0 (by kernel_rfl) (by kernel_rfl) (by kernel_rfl) ?_
      intro y w9 p hlo hhi hW hD K hK
      clear hD
      generalize hAA : fillL y _ _ = AA at hK ⊢
      simp only [fillL, Act.put, List.setIfInBounds_toArray, List.set_cons_zero, List.set_cons_succ, List.getD_cons_zero, List.getD_cons_succ, IsP] at hAA
      subst hAA
      simp only [List.getD_cons_zero, List.getD_cons_succ, IsP] at hK
      refine ite_yes (by rfl) ?_
      go_simp
      exact hK _ _ _ rfl (Grew.refl _) rfl
    refine ⟨?_, ?_⟩
    · refine wordP_read 0 0 (by kernel_rfl) (by kernel_rfl) (by kernel_rfl) ?_
      intro y w9 p hlo hhi hW hD K hK
      simp only [depsP, List.getD_cons_zero, List.getD_cons_succ, IsP] at hD
      have h2 := hD.1
      clear hD
      generalize hAA : fillL y _ _ = AA at hK ⊢
      simp only [fillL, Act.put, List.setIfInBounds_toArray, List.set_cons_zero, List.set_cons_succ, List.getD_cons_zero, List.getD_cons_succ, IsP] at hAA
      subst hAA
      simp only [List.getD_cons_zero, List.getD_cons_succ, IsP] at hK
      simp only [h2] at hK ⊢
      clear h2
      refine ite_yes (by rfl) ?_
      go_simp
      obtain rfl : p = 0 := by omega
      have hg0 : Grew w5 w9 := hW
      by_cases hk0 : k2 = 0
      · have hm0 : M = [] := by rw [← HM.out, hk0]; rfl
        refine (values18_nil ma k2 mc hk0 w9).mono ?_
        rintro r w6 ⟨rfl, hg⟩
        exact hK _ _ _ rfl hg (fun _ => ⟨by rw [hm0]; exact World.ownsRow_nil _ _ _ _, fun k hk => by cases hk⟩)
      have hne : M ≠ [] := fun e => hk0 (by have h1 := congrArg List.length HM.out; rw [e, valsM_length, List.length_take] at h1; simp only [List.length_nil] at h1; omega)
      refine (values18_any 4 _ _ _ ((HPM.out mc).grew (HGW.out.trans hg0)) (by omega) (by omega) (by omega)).mono ?_
      rintro r w6 ⟨v', rfl, hown, hg⟩
      rw [HM.out] at hown
      exact hK _ _ _ rfl hg (fun _ => ⟨own_base3 hown hg0.size, own_not0 hown HMK.out hne⟩)
    refine ⟨?_, ?_⟩
    · refine wordP_read 0 0 (by kernel_rfl) (by kernel_rfl) (by kernel_rfl) ?_
      intro y w9 p hlo hhi hW hD K hK
      have c0 := (HXC.out w9 p hW).1
      have c1 := (HXC.out w9 p hW).2.1
      have c2 := (HXC.out w9 p hW).2.2
      clear hD
      generalize hAA : fillL y _ _ = AA at hK ⊢
      simp only [fillL, Act.put, List.setIfInBounds_toArray, List.set_cons_zero, List.set_cons_succ, List.getD_cons_zero, List.getD_cons_succ, IsP] at hAA
      subst hAA
      simp only [List.getD_cons_zero, List.getD_cons_succ, IsP] at hK
      refine ite_yes (by rfl) ?_
      go_simp
      exact hK _ _ _ rfl (Grew.refl _) rfl
    refine ⟨?_, ?_⟩
    · refine wordP_read 0 0 (by kernel_rfl) (by kernel_rfl) (by kernel_rfl) ?_
      intro y w9 p hlo hhi hW hD K hK
      simp only [depsP, List.getD_cons_zero, List.getD_cons_succ, IsP] at hD
      have h4 := hD.1
      clear hD
      generalize hAA : fillL y _ _ = AA at hK ⊢
      simp only [fillL, Act.put, List.setIfInBounds_toArray, List.set_cons_zero, List.set_cons_succ, List.getD_cons_zero, List.getD_cons_succ, IsP] at hAA
      subst hAA
      simp only [List.getD_cons_zero, List.getD_cons_succ, IsP] at hK
      simp only [h4] at hK ⊢
      clear h4
      refine ite_yes (by rfl) ?_
      go_simp
      obtain rfl : p = 0 := by omega
      exact hK _ _ _ rfl ((Grew.refl _).alloc _) (fun _ => ⟨_, rfl, heap_alloc_new _ _⟩)
    refine ⟨?_, ?_⟩
    · refine wordP_write 0 rfl ?_
      intro y w9 hW hD K hK
      simp only [depsP, List.getD_cons_zero, List.getD_cons_succ, IsP] at hD
      have h2 := hD.1
      have h3 := hD.2.1
      have h4 := hD.2.2.1
      have h5 := hD.2.2.2.1
      clear hD
      generalize hAA : fillL y _ _ = AA at hK ⊢
      simp only [fillL, Act.put, List.setIfInBounds_toArray, List.set_cons_zero, List.set_cons_succ, List.getD_cons_zero, List.getD_cons_succ, IsP] at hAA
      subst hAA
      simp only [List.getD_cons_zero, List.getD_cons_succ, IsP] at hK
      simp only [h2, h4] at hK ⊢
      clear h2 h4
      obtain ⟨g, hs, hgr⟩ := h5 rfl
      rw [hs] at hK ⊢
      clear h5 hs
      refine ite_yes (by rfl) ?_
      have hg0 : Grew w5 w9 := hW
      have hown : OwnVals w9 w5.heap.size (y 3) M := (h3 rfl).1
      have hnz := (h3 rfl).2
      refine wp_appB w9 _ _ rfl w5.heap.size (y 3) M rfl hown (9, x1, p1) g rfl hgr (by have := HML.out; omega) hg0.size ?_
      intro v' w' ho hgb
      exact hK _ _ _ rfl ⟨Moved.of_grown hgb, hnz⟩ (movedFresh hg0 (Moved.of_grown hgb) (fun k hk => (World.ownsRow.lt hown k hk.symm).1)) (by rw [← HM2.out]; exact ho)
    refine ⟨?_, ?_⟩
    · refine wordP_write 1 rfl ?_
      intro y w9 hW hD K hK
      simp only [depsP, List.getD_cons_zero, List.getD_cons_succ, IsP] at hD
      have h0 := hD.1
      have h1 := hD.2.1
      have h2 := hD.2.2.1
      have h3 := hD.2.2.2.1
      have h4 := hD.2.2.2.2.1
      have h5 := hD.2.2.2.2.2.1
      have h6 := hD.2.2.2.2.2.2.1
      clear hD
      generalize hAA : fillL y _ _ = AA at hK ⊢
      simp only [fillL, Act.put, List.setIfInBounds_toArray, List.set_cons_zero, List.set_cons_succ, List.getD_cons_zero, List.getD_cons_succ, IsP] at hAA
      subst hAA
      simp only [List.getD_cons_zero, List.getD_cons_succ, IsP] at hK
      simp only [h0, h1, h2, h4] at hK ⊢
      clear h0 h1 h2 h4
      refine ite_yes (by rfl) ?_
      have hg0 : Grew w5 w9 := hW
      have hown : OwnVals w9 w5.heap.size (y 6) M2 := h6
      refine Exists.elim (own_form hown) fun fa h => Exists.elim h fun fc h => ?_
      have hs := h.1
      have hnil := h.2
      clear h
      rw [hs] at hown hK ⊢
      go_simp
      refine (put_map (X1, 0) (14, 1, 5) _ M2 (HB.out.grew hg0) (Nat.le_trans HBEL.out.size hg0.size) (by show (X1.length : Int) ≤ 1048576; have := HX1.out; omega) (by decide) hown.vals (fun c e => by injection e with e1 e2 e3; rw [← e3]; exact hnil e1) (by have := HML2.out; omega) HOKM.out ⟨by decide, by decide⟩ ?_ rfl).mono ?_
      · intro ad n' c' e
        have hlt := own_lt hown e
        have hge := own_ge hown e
        exact ⟨hlt, fun hq => by have := HS.out _ hq; omega⟩
      rw [HQ2.out]
      rintro r w6 ⟨rfl, ht⟩
      have hlv := Live.turn (s := (X1, 0)) (s' := (X2, 0)) (HB.out.grew hg0) (Below.trans HBEL.out (Below.mono hg0 HBEL.out.size)) ht (by show (X2.length : Int) ≤ 1048576; have := HX2.out; omega) (by decide)
      obtain ⟨_, _, _, hm⟩ := ht
      exact hK _ _ _ rfl hm ⟨(Moved.of_grew hg0).trans' hm, hlv⟩ rfl
    refine ⟨?_, ?_⟩
    · refine wordP_read 2 2 (by kernel_rfl) (by kernel_rfl) (by kernel_rfl) ?_
      intro y w9 p hlo hhi hW hD K hK
      simp only [depsP, List.getD_cons_zero, List.getD_cons_succ, IsP] at hD
      have h0 := hD.1
      have h1 := hD.2.1
      have h2 := hD.2.2.1
      have h3 := hD.2.2.2.1
      have h4 := hD.2.2.2.2.1
      have h5 := hD.2.2.2.2.2.1
      have h6 := hD.2.2.2.2.2.2.1
      have h7 := hD.2.2.2.2.2.2.2.1
      clear hD
      generalize hAA : fillL y _ _ = AA at hK ⊢
      simp only [fillL, Act.put, List.setIfInBounds_toArray, List.set_cons_zero, List.set_cons_succ, List.getD_cons_zero, List.getD_cons_succ, IsP] at hAA
      subst hAA
      simp only [List.getD_cons_zero, List.getD_cons_succ, IsP] at hK
      simp only [h0, h1, h2, h4, h7] at hK ⊢
      clear h0 h1 h2 h4 h7
      refine ite_yes (by rfl) ?_
      go_simp
      exact hK _ _ _ rfl (Grew.refl _) rfl
    refine ⟨?_, ?_⟩
    · refine wordP_read 2 2 (by kernel_rfl) (by kernel_rfl) (by kernel_rfl) ?_
      intro y w9 p hlo hhi hW hD K hK
      simp only [depsP, List.getD_cons_zero, List.getD_cons_succ, IsP] at hD
      have h0 := hD.1
      have h1 := hD.2.1
      have h2 := hD.2.2.1
      have h3 := hD.2.2.2.1
      have h4 := hD.2.2.2.2.1
      have h5 := hD.2.2.2.2.2.1
      have h6 := hD.2.2.2.2.2.2.1
      have h7 := hD.2.2.2.2.2.2.2.1
      have h8 := hD.2.2.2.2.2.2.2.2.1
      clear hD
      generalize hAA : fillL y _ _ = AA at hK ⊢
      simp only [fillL, Act.put, List.setIfInBounds_toArray, List.set_cons_zero, List.set_cons_succ, List.getD_cons_zero, List.getD_cons_succ, IsP] at hAA
      subst hAA
      simp only [List.getD_cons_zero, List.getD_cons_succ, IsP] at hK
      simp only [h0, h1, h2, h4, h7, h8] at hK ⊢
      clear h0 h1 h2 h4 h7 h8
      refine ite_yes (by rfl) ?_
      go_simp
      exact hK _ _ _ rfl (Grew.refl _) rfl
    refine ⟨?_, ?_⟩
    · refine wordP_read 2 3 (by kernel_rfl) (by kernel_rfl) (by kernel_rfl) ?_
      intro y w9 p hlo hhi hW hD K hK
      simp only [depsP, List.getD_cons_zero, List.getD_cons_succ, IsP] at hD
      have h0 := hD.1
      have h1 := hD.2.1
      have h2 := hD.2.2.1
      have h3 := hD.2.2.2.1
      have h4 := hD.2.2.2.2.1
      have h5 := hD.2.2.2.2.2.1
      have h6 := hD.2.2.2.2.2.2.1
      have h7 := hD.2.2.2.2.2.2.2.1
      have h8 := hD.2.2.2.2.2.2.2.2.1
      clear hD
      generalize hAA : fillL y _ _ = AA at hK ⊢
      simp only [fillL, Act.put, List.setIfInBounds_toArray, List.set_cons_zero, List.set_cons_succ, List.getD_cons_zero, List.getD_cons_succ, IsP] at hAA
      subst hAA
      simp only [List.getD_cons_zero, List.getD_cons_succ, IsP] at hK
      simp only [h0, h1, h2, h4, h7, h8] at hK ⊢
      clear h0 h1 h2 h4 h7 h8
      refine ite_yes (by rfl) ?_
      go_simp
      exact hK _ _ _ rfl (Grew.refl _) rfl
    refine ⟨?_, ?_⟩
    · refine wordP_read 0 2 (by kernel_rfl) (by kernel_rfl) (by kernel_rfl) ?_
      intro y w9 p hlo hhi hW hD K hK
      clear hD
      generalize hAA : fillL y _ _ = AA at hK ⊢
      simp only [fillL, Act.put, List.setIfInBounds_toArray, List.set_cons_zero, List.set_cons_succ, List.getD_cons_zero, List.getD_cons_succ, IsP] at hAA
      subst hAA
      simp only [List.getD_cons_zero, List.getD_cons_succ, IsP] at hK
      refine ite_yes (by rfl) ?_
      go_simp
      exact hK _ _ _ rfl ((Grew.refl _).alloc _) ⟨_, rfl, HSZP.out w9 p hW, by rw [if_pos (by omega)]; exact heap_alloc_new _ _⟩
    refine ⟨?_, ?_⟩
    · refine wordP_write 2 rfl ?_
      intro y w9 hW hD K hK
      simp only [depsP, List.getD_cons_zero, List.getD_cons_succ, IsP] at hD
      have h0 := hD.1
      have h1 := hD.2.1
      have h2 := hD.2.2.1
      have h3 := hD.2.2.2.1
      have h4 := hD.2.2.2.2.1
      have h5 := hD.2.2.2.2.2.1
      have h6 := hD.2.2.2.2.2.2.1
      have h7 := hD.2.2.2.2.2.2.2.1
      have h8 := hD.2.2.2.2.2.2.2.2.1
      have h9 := hD.2.2.2.2.2.2.2.2.2.1
      have h11 := hD.2.2.2.2.2.2.2.2.2.2.1
      clear hD
      generalize hAA : fillL y _ _ = AA at hK ⊢
      simp only [fillL, Act.put, List.setIfInBounds_toArray, List.set_cons_zero, List.set_cons_succ, List.getD_cons_zero, List.getD_cons_succ, IsP] at hAA
      subst hAA
      simp only [List.getD_cons_zero, List.getD_cons_succ, IsP] at hK
      simp only [h0, h1, h2, h4, h7, h8, h9] at hK ⊢
      clear h0 h1 h2 h4 h7 h8 h9
      refine ite_yes (by rfl) ?_
      obtain ⟨g, hs, hgB, hgr⟩ : ∃ g, y 11 = .pointer (some ⟨g, 0, none⟩) ∧ w5.heap.size ≤ g ∧ w9.heap[g]? = some Z0 := by obtain ⟨g, a, b, c⟩ := h11; exact ⟨g, a, b, c⟩
      clear h11
      have hrow := hgr
      have f0 := row_frozen hrow 0
      have f1 := row_frozen hrow 1
      have f2 := row_frozen hrow 2
      have c0 := row_cell hrow 0 _ rfl
      have c1 := row_cell hrow 1 _ rfl
      have c2 := row_cell hrow 2 _ rfl
      have hst := heap_store3 hrow (.int .i64 9) (.int .i64 x2) (.int .u64 p2)
      have hlm := live_told (z := (9, x2, p2)) hW.2 (by have := HW0w5.out; omega) hgr _ _ _ hst
      rw [hs] at hK ⊢
      go_simp
      refine hK _ undef _ rfl ⟨g, hs, hlm.2, hst⟩ ⟨hW.1.trans hlm.2 (fun j hj e => by omega), hlm.1⟩ trivial
    refine ⟨?_, ?_⟩
    · refine wordP_read 3 3 (by kernel_rfl) (by kernel_rfl) (by kernel_rfl) ?_
      intro y w9 p hlo hhi hW hD K hK
      simp only [depsP, List.getD_cons_zero, List.getD_cons_succ, IsP] at hD
      have h0 := hD.1
      have h1 := hD.2.1
      have h2 := hD.2.2.1
      have h3 := hD.2.2.2.1
      have h4 := hD.2.2.2.2.1
      have h5 := hD.2.2.2.2.2.1
      have h6 := hD.2.2.2.2.2.2.1
      have h7 := hD.2.2.2.2.2.2.2.1
      have h8 := hD.2.2.2.2.2.2.2.2.1
      have h9 := hD.2.2.2.2.2.2.2.2.2.1
      have h10 := hD.2.2.2.2.2.2.2.2.2.2.1
      have h11 := hD.2.2.2.2.2.2.2.2.2.2.2.1
      clear hD
      generalize hAA : fillL y _ _ = AA at hK ⊢
      simp only [fillL, Act.put, List.setIfInBounds_toArray, List.set_cons_zero, List.set_cons_succ, List.getD_cons_zero, List.getD_cons_succ, IsP] at hAA
      subst hAA
      simp only [List.getD_cons_zero, List.getD_cons_succ, IsP] at hK
      simp only [h0, h1, h2, h4, h7, h8, h9, h10] at hK ⊢
      clear h0 h1 h2 h4 h7 h8 h9 h10
      refine ite_yes (by rfl) ?_
      go_simp
      exact hK _ _ _ rfl (Grew.refl _) rfl
    trivial
  refine ⟨?_, ?_⟩
  · refine wordP_read 0 0 (by kernel_rfl) (by kernel_rfl) (by kernel_rfl) ?_
    intro y w9 p hlo hhi hW hD K hK
    clear hD
    generalize hAA : fillL y _ _ = AA at hK ⊢
    simp only [fillL, Act.put, List.setIfInBounds_toArray, List.set_cons_zero, List.set_cons_succ, List.getD_cons_zero, List.getD_cons_succ, IsP] at hAA
    subst hAA
    simp only [List.getD_cons_zero, List.getD_cons_succ, IsP] at hK
    refine ite_yes (by rfl) ?_
    go_simp
    exact hK _ _ _ rfl (Grew.refl _) rfl
  refine ⟨?_, ?_⟩
  · refine wordP_read 0 0 (by kernel_rfl) (by kernel_rfl) (by kernel_rfl) ?_
    intro y w9 p hlo hhi hW hD K hK
    have c0 := (HKC.out w9 p hW).1
    have c1 := (HKC.out w9 p hW).2.1
    have c2 := (HKC.out w9 p hW).2.2
    clear hD
    generalize hAA : fillL y _ _ = AA at hK ⊢
    simp only [fillL, Act.put, List.setIfInBounds_toArray, List.set_cons_zero, List.set_cons_succ, List.getD_cons_zero, List.getD_cons_succ, IsP] at hAA
    subst hAA
    simp only [List.getD_cons_zero, List.getD_cons_succ, IsP] at hK
    refine ite_yes (by rfl) ?_
    go_simp
    exact hK _ _ _ rfl (Grew.refl _) rfl
  refine ⟨?_, ?_⟩
  · refine wordP_read 0 0 (by kernel_rfl) (by kernel_rfl) (by kernel_rfl) ?_
    intro y w9 p hlo hhi hW hD K hK
    clear hD
    generalize hAA : fillL y _ _ = AA at hK ⊢
    simp only [fillL, Act.put, List.setIfInBounds_toArray, List.set_cons_zero, List.set_cons_succ, List.getD_cons_zero, List.getD_cons_succ, IsP] at hAA
    subst hAA
    simp only [List.getD_cons_zero, List.getD_cons_succ, IsP] at hK
    refine ite_yes (by rfl) ?_
    go_simp
    exact hK _ _ _ rfl (Grew.refl _) rfl
  refine ⟨?_, ?_⟩
  · refine wordP_read 0 0 (by kernel_rfl) (by kernel_rfl) (by kernel_rfl) ?_
    intro y w9 p hlo hhi hW hD K hK
    simp only [depsP, List.getD_cons_zero, List.getD_cons_succ, IsP] at hD
    have h2 := hD.1
    clear hD
    generalize hAA : fillL y _ _ = AA at hK ⊢
    simp only [fillL, Act.put, List.setIfInBounds_toArray, List.set_cons_zero, List.set_cons_succ, List.getD_cons_zero, List.getD_cons_succ, IsP] at hAA
    subst hAA
    simp only [List.getD_cons_zero, List.getD_cons_succ, IsP] at hK
    simp only [h2] at hK ⊢
    clear h2
    refine ite_yes (by rfl) ?_
    go_simp
    obtain rfl : p = 0 := by omega
    have hg0 : Grew w4 w9 := hW
    refine (values18_any 4 _ _ _ ((HPL.out lc).grew (HGW.out.trans hg0)) (by omega) (by omega) (by omega)).mono ?_
    rintro r w5 ⟨v', rfl, hown, hg⟩
    exact hK _ _ _ rfl hg (fun _ => by rw [HL.out] at hown; exact own_base3 hown hg0.size)
  refine ⟨?_, ?_⟩
  · refine wordP_write 0 rfl ?_
    intro y w9 hW hD K hK
    simp only [depsP, List.getD_cons_zero, List.getD_cons_succ, IsP] at hD
    have h0 := hD.1
    have h1 := hD.2.1
    have h2 := hD.2.2.1
    have h3 := hD.2.2.2.1
    clear hD
    generalize hAA : fillL y _ _ = AA at hK ⊢
    simp only [fillL, Act.put, List.setIfInBounds_toArray, List.set_cons_zero, List.set_cons_succ, List.getD_cons_zero, List.getD_cons_succ, IsP] at hAA
    subst hAA
    simp only [List.getD_cons_zero, List.getD_cons_succ, IsP] at hK
    simp only [h0, h1, h2] at hK ⊢
    clear h0 h1 h2
    refine ite_yes (by rfl) ?_
    have hg0 : Grew w4 w9 := hW
    have hown : OwnVals w9 w4.heap.size (y 3) L := h3 rfl
    refine Exists.elim (own_form hown) fun fa h => Exists.elim h fun fc h => ?_
    have hs := h.1
    have hnil := h.2
    clear h
    rw [hs] at hown hK ⊢
    go_simp
    refine (put_map (keysB, 0) (14, 1, 5) _ L (HB.out.grew hg0) (Nat.le_trans HBEL.out.size hg0.size) (by decide) (by decide) hown.vals (fun c e => by injection e with e1 e2 e3; rw [← e3]; exact hnil e1) (by have := HLL.out; omega) HOKL.out ⟨by decide, by decide⟩ ?_ rfl).mono ?_
    · intro ad n' c' e
      have hlt := own_lt hown e
      have hge := own_ge hown e
      exact ⟨hlt, fun hq => by have := HS.out _ hq; omega⟩
    rw [HQ1.out]
    rintro r w5 ⟨rfl, ht⟩
    have hlv := Live.turn (s := (keysB, 0)) (s' := (X1, 0)) (HB.out.grew hg0) (Below.trans HBEL.out (Below.mono hg0 HBEL.out.size)) ht (by show (X1.length : Int) ≤ 1048576; have := HX1.out; omega) (by decide)
    obtain ⟨_, _, _, hm⟩ := ht
    exact hK _ _ _ rfl hm ⟨(Moved.of_grew hg0).trans' hm, hlv⟩ rfl
  refine ⟨?_, ?_⟩
  · refine wordP_read 1 1 (by kernel_rfl) (by kernel_rfl) (by kernel_rfl) ?_
    intro y w9 p hlo hhi hW hD K hK
    simp only [depsP, List.getD_cons_zero, List.getD_cons_succ, IsP] at hD
    have h0 := hD.1
    have h1 := hD.2.1
    have h2 := hD.2.2.1
    have h3 := hD.2.2.2.1
    have h4 := hD.2.2.2.2.1
    clear hD
    generalize hAA : fillL y _ _ = AA at hK ⊢
    simp only [fillL, Act.put, List.setIfInBounds_toArray, List.set_cons_zero, List.set_cons_succ, List.getD_cons_zero, List.getD_cons_succ, IsP] at hAA
    subst hAA
    simp only [List.getD_cons_zero, List.getD_cons_succ, IsP] at hK
    simp only [h0, h1, h2, h4] at hK ⊢
    clear h0 h1 h2 h4
    refine ite_yes (by rfl) ?_
    go_simp
    exact hK _ _ _ rfl (Grew.refl _) rfl
  refine ⟨?_, ?_⟩
  · refine wordP_read 1 1 (by kernel_rfl) (by kernel_rfl) (by kernel_rfl) ?_
    intro y w9 p hlo hhi hW hD K hK
    simp only [depsP, List.getD_cons_zero, List.getD_cons_succ, IsP] at hD
    have h0 := hD.1
    have h1 := hD.2.1
    have h2 := hD.2.2.1
    have h3 := hD.2.2.2.1
    have h4 := hD.2.2.2.2.1
    have h5 := hD.2.2.2.2.2.1
    clear hD
    generalize hAA : fillL y _ _ = AA at hK ⊢
    simp only [fillL, Act.put, List.setIfInBounds_toArray, List.set_cons_zero, List.set_cons_succ, List.getD_cons_zero, List.getD_cons_succ, IsP] at hAA
    subst hAA
    simp only [List.getD_cons_zero, List.getD_cons_succ, IsP] at hK
    simp only [h0, h1, h2, h4, h5] at hK ⊢
    clear h0 h1 h2 h4 h5
    refine ite_yes (by rfl) ?_
    go_simp
    exact hK _ _ _ rfl (Grew.refl _) rfl
  refine ⟨?_, ?_⟩
  · refine wordP_read 1 2 (by kernel_rfl) (by kernel_rfl) (by kernel_rfl) ?_
    intro y w9 p hlo hhi hW hD K hK
    simp only [depsP, List.getD_cons_zero, List.getD_cons_succ, IsP] at hD
    have h0 := hD.1
    have h1 := hD.2.1
    have h2 := hD.2.2.1
    have h3 := hD.2.2.2.1
    have h4 := hD.2.2.2.2.1
    have h5 := hD.2.2.2.2.2.1
    clear hD
    generalize hAA : fillL y _ _ = AA at hK ⊢
    simp only [fillL, Act.put, List.setIfInBounds_toArray, List.set_cons_zero, List.set_cons_succ, List.getD_cons_zero, List.getD_cons_succ, IsP] at hAA
    subst hAA
    simp only [List.getD_cons_zero, List.getD_cons_succ, IsP] at hK
    simp only [h0, h1, h2, h4, h5] at hK ⊢
    clear h0 h1 h2 h4 h5
    refine ite_yes (by rfl) ?_
    go_simp
    exact hK _ _ _ rfl (Grew.refl _) rfl
  refine ⟨?_, ?_⟩
  · refine wordP_read 0 1 (by kernel_rfl) (by kernel_rfl) (by kernel_rfl) ?_
    intro y w9 p hlo hhi hW hD K hK
    clear hD
    generalize hAA : fillL y _ _ = AA at hK ⊢
    simp only [fillL, Act.put, List.setIfInBounds_toArray, List.set_cons_zero, List.set_cons_succ, List.getD_cons_zero, List.getD_cons_succ, IsP] at hAA
    subst hAA
    simp only [List.getD_cons_zero, List.getD_cons_succ, IsP] at hK
    refine ite_yes (by rfl) ?_
    go_simp
    exact hK _ _ _ rfl ((Grew.refl _).alloc _) ⟨_, rfl, HSZP.out w9 p hW, by rw [if_pos (by omega)]; exact heap_alloc_new _ _⟩
  refine ⟨?_, ?_⟩
  · refine wordP_write 1 rfl ?_
    intro y w9 hW hD K hK
    simp only [depsP, List.getD_cons_zero, List.getD_cons_succ, IsP] at hD
    have h0 := hD.1
    have h1 := hD.2.1
    have h2 := hD.2.2.1
    have h3 := hD.2.2.2.1
    have h4 := hD.2.2.2.2.1
    have h5 := hD.2.2.2.2.2.1
    have h6 := hD.2.2.2.2.2.2.1
    have h8 := hD.2.2.2.2.2.2.2.1
    clear hD
    generalize hAA : fillL y _ _ = AA at hK ⊢
    simp only [fillL, Act.put, List.setIfInBounds_toArray, List.set_cons_zero, List.set_cons_succ, List.getD_cons_zero, List.getD_cons_succ, IsP] at hAA
    subst hAA
    simp only [List.getD_cons_zero, List.getD_cons_succ, IsP] at hK
    simp only [h0, h1, h2, h4, h5, h6] at hK ⊢
    clear h0 h1 h2 h4 h5 h6
    refine ite_yes (by rfl) ?_
    obtain ⟨g, hs, hgB, hgr⟩ : ∃ g, y 8 = .pointer (some ⟨g, 0, none⟩) ∧ w4.heap.size ≤ g ∧ w9.heap[g]? = some Z0 := by obtain ⟨g, a, b, c⟩ := h8; exact ⟨g, a, b, c⟩
    clear h8
    have hrow := hgr
    have f0 := row_frozen hrow 0
    have f1 := row_frozen hrow 1
    have f2 := row_frozen hrow 2
    have c0 := row_cell hrow 0 _ rfl
    have c1 := row_cell hrow 1 _ rfl
    have c2 := row_cell hrow 2 _ rfl
    have hst := heap_store3 hrow (.int .i64 9) (.int .i64 x1) (.int .u64 p1)
    have hlm := live_told (z := (9, x1, p1)) hW.2 (by have := HW0w4.out; omega) hgr _ _ _ hst
    rw [hs] at hK ⊢
    go_simp
    refine hK _ undef _ rfl ⟨g, hs, hlm.2, hst⟩ ⟨hW.1.trans hlm.2 (fun j hj e => by omega), hlm.1⟩ trivial
  refine ⟨?_, ?_⟩
  · refine wordP_read 2 2 (by kernel_rfl) (by kernel_rfl) (by kernel_rfl) ?_
    intro y w9 p hlo hhi hW hD K hK
    simp only [depsP, List.getD_cons_zero, List.getD_cons_succ, IsP] at hD
    have h0 := hD.1
    have h1 := hD.2.1
    have h2 := hD.2.2.1
    have h3 := hD.2.2.2.1
    have h4 := hD.2.2.2.2.1
    have h5 := hD.2.2.2.2.2.1
    have h6 := hD.2.2.2.2.2.2.1
    have h7 := hD.2.2.2.2.2.2.2.1
    have h8 := hD.2.2.2.2.2.2.2.2.1
    clear hD
    generalize hAA : fillL y _ _ = AA at hK ⊢
    simp only [fillL, Act.put, List.setIfInBounds_toArray, List.set_cons_zero, List.set_cons_succ, List.getD_cons_zero, List.getD_cons_succ, IsP] at hAA
    subst hAA
    simp only [List.getD_cons_zero, List.getD_cons_succ, IsP] at hK
    simp only [h0, h1, h2, h4, h5, h6, h7] at hK ⊢
    clear h0 h1 h2 h4 h5 h6 h7
    refine ite_yes (by rfl) ?_
    go_simp
    exact hK _ _ _ rfl (Grew.refl _) rfl
  trivial

set_option maxRecDepth 100000 in
theorem mapsTwice_row {H : Type} (enc : TypeId × Value → H) (W : World) (base : Nat) (v0 : Value) (d0 : DataW H) (p0 : List MemPlace) (o0 : Value.okWide Try.prog W .any base 22 v0) (k0 : DataW.Trod enc Try.prog W 0 (fun _ => true) true 22 v0 d0 p0) (v1 : Value) (d1 : DataW H) (p1 : List MemPlace) (o1 : Value.okWide Try.prog W .any base 22 v1) (k1 : DataW.Trod enc Try.prog W 0 (fun _ => true) true 22 v1 d1 p1) :
    Calls Try.prog 5 #[v0, v1] W fun e w' => e = .returned (.bool true) ∧ Below W.heap.size W w' := by
  obtain ⟨l, hl, hlen, _⟩ := open_Prs o0 k0
  obtain ⟨m, hm, hmen, _⟩ := open_Prs o1 k1
  exact mapsTwice_any v0 v1 l m W hl.pairs hm.pairs hlen hmen hl.cap hm.cap

theorem mapsTwice_own : ownKnob Try.prog.godebug = none := by kernel_rfl
theorem mapsTwice_laidOut : laidOutB Try.prog = true := by kernel_rfl

set_option maxRecDepth 100000 in
theorem mapsTwice_lifted (os : Os) (started : os.Started) (H : Type) (enc : TypeId × Value → H) :
    ReturnsInHanded {} Try.checked os 5 .any (Rows.mapsTwiceSpec.pre6 enc Try.prog Try.f5 Rows.mapsTwiceRow.domain false) (Rows.mapsTwiceSpec.post enc Try.prog Try.f5 false true false false) := by
  refine returnsInHanded_of_change (C := Try.checked) mapsTwice_own started (by kernel_rfl) Try.func5
    (ChangeSpec.witness6 (enc := enc) (C := Try.checked) false ⟨#[], #[.slice none 0 0, .slice none 0 0], []⟩ 8 (by kernel_rfl) (by kernel_rfl) (by kernel_rfl) (by kernel_rfl)) ?_
  intro W base args ds gs before hval0 hW hcnd _
  have hval : ∀ (j : Nat) t v, Try.f5.params[j]? = some t → args[j]? = some v → Value.okWide Try.prog W .any base t v := hval0
  have hW' := hW
  obtain ⟨p, q, hA0, hV, rfl, hfz, hnd⟩ := hW
  have hA : DataW.TrodAll enc Try.prog W 0 (fun _ => true) true Try.f5.params.toList args.toList ds p := hA0
  rw [Try.params5] at hA hval
  obtain ⟨v0, vs0, d0, ds0, p0, q0, hargs, rfl, rfl, h0, r0⟩ := trodAll_cons hA
  obtain ⟨v1, vs1, d1, ds1, p1, q1, rfl, rfl, rfl, h1, r1⟩ := trodAll_cons r0
  obtain ⟨rfl, rfl, rfl⟩ := trodAll_nil r1
  obtain rfl : args = #[v0, v1] := by cases args; simp_all
  obtain ⟨rfl, rfl⟩ := trodVars_none hV
  have lt0 : ∀ x ∈ p0, x.block < W.heap.size := by obtain ⟨m, hm⟩ := h0; exact DataW.trod_lt m _ _ _ hm
  have lt1 : ∀ x ∈ p1, x.block < W.heap.size := by obtain ⟨m, hm⟩ := h1; exact DataW.trod_lt m _ _ _ hm
  have hw := mapsTwice_row enc W base v0 d0 p0 (hval 0 22 v0 rfl rfl) h0 v1 d1 p1 (hval 1 22 v1 rfl rfl) h1
  clear hA0 hval0
  refine hw.mono fun e W' ⟨he, bel⟩ => ?_
  subst he
  exact ⟨_, rfl, _, _, _, [], _, [], hW', trodAll_mk1 (shut_bool Try.underlying4 _), (trodAll_cons_mk (Below.trod mapsTwice_laidOut (by kernel_rfl) (of_decide_eq_true (by kernel_rfl)) h0 bel lt0) (trodAll_cons_mk (Below.trod mapsTwice_laidOut (by kernel_rfl) (of_decide_eq_true (by kernel_rfl)) h1 bel lt1) trodAll_mk0)), rfl, Below.frame bel _, fun h => by cases h⟩

/-- The statement. -/
theorem mapsTwice_holds : Rows.MapsTwiceSaid :=
  OpenClaim.holds_of_wide 5 Try.f5 rfl rfl rfl rfl rfl rfl rfl ⟨rfl, rfl, rfl, rfl, rfl⟩ rfl rfl rfl rfl rfl (by kernel_rfl) Try.func5 (by kernel_rfl)
    (of_decide_eq_true (by kernel_rfl)) (by unfold Func.isWrapper; first | (rw [if_pos (by decide +kernel)]; kernel_rfl) | (rw [if_neg (by decide +kernel)]; exact ⟨rfl, rfl⟩))
    (fun os started H enc _ => mapsTwice_lifted os started H enc)
end Go.Proofs.Ytajpbclcfjljnaa
