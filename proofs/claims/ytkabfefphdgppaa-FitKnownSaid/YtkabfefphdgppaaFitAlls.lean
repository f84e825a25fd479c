/-
  FitAlls: fit.All and the reference agree at all numbers and lists of values (the first 300), the list is left as it was, and the chapter's examples hold.
-/
import Derived.Test.YtkabfefphdgppaaRows
import Derived.Test.YtkabfefphdgppaaOwnV
import Derived.Test.YtkabfefphdgppaaOpen16
import Derived.ProofKit
import Derived.OpenShut
import Derived.ShutString
import Derived.ChangeOld
import Derived.Below
import Derived.Lib.SmallJoins
import Derived.Deep.QuietTactic
import Derived.BigQuiet
import Derived.Deep.Draws
namespace Go.Proofs.Ytkabfefphdgppaa
set_option linter.unusedSimpArgs false
set_option linter.unusedVariables false
open Go Go.ChangeShapes Go.WideShapes Go.ChangeAt Go.RowKit Go.Joins
open Go.ChangeMaps (open_string shut_string)

def FewPost (l : List V3) (w : World) (e : Ending) (w' : World) : Prop := ∃ v, e = .returned v ∧ OwnV w.heap.size w' v (l.take 300) ∧ Grew w w'

set_option maxHeartbeats 1000000 in
theorem few_any (l : List V3) (sv : Value) (w : World) (hs : ValsAt w sv l) (hsk : SliceOK sv) (hl : l.length ≤ 9223372036854775807) :
    Calls Try.prog 14 #[sv] w (FewPost l w) := by
  obtain ⟨sa, cap, rfl, hc⟩ := hs
  have hk := hsk _ _ _ rfl
  obtain ⟨hk1, hk2⟩ := hk
  have hb : 0 ≤ min (l.length : Int) 300 ∧ min (l.length : Int) 300 ≤ (cap : Int) := by omega
  have HV : Hid (ValsAt w (.slice sa (min (l.length : Int) 300).toNat cap) (l.take 300)) := by
    refine ⟨sa, cap, ?_, fun i x hx => hc i x ?_⟩
    · rw [List.length_take]; congr 1; omega
    · rw [List.getElem?_take] at hx
      split at hx
      · exact hx
      · cases hx
  have HO : Hid (SliceOK (.slice sa (min (l.length : Int) 300).toNat cap)) := by
    intro a n c e
    cases e
    exact ⟨by omega, hk2⟩
  have HL : Hid (([] : List V3).length + (l.take 300).length ≤ 1099511627776) := by
    show _ ≤ _
    rw [List.length_nil, List.length_take]; omega
  clear hk2 hc
  go_enter Try.func14, Try.ntmps14
  go_wp2_with (at_builtin; refine wpList_appendV rfl _ _ rfl w.heap.size (.slice none 0 0) [] rfl (OwnV.nil _ _) _ (l.take 300) rfl HV.out HO.out HL.out (Nat.le_refl _) ?_; intro v' w' hown hbel _)
  rw [List.nil_append] at hown
  go_wp2
  exact bodyPost_ret (v := v') (by simp [results, Try.results14, go_sem]) rfl ⟨v', rfl, hown, hbel⟩

/-- FitAlls's walk -/
theorem Grew.drewN {a w : World} (h : Grew a w) (n : Nat) : Grew a (w.drewN n) := by
  have h2 : Below a.heap.size a w := h
  exact ⟨h2.os, h2.tape, h2.output, h2.size, h2.block⟩
theorem take_ok {l : List V3} (h : ∀ x ∈ l, okV x) (n : Nat) : ∀ x ∈ l.take n, okV x := fun x hx => h x (List.mem_of_mem_take hx)

set_option maxRecDepth 100000 in
set_option maxHeartbeats 4000000 in
theorem fitAlls_any (p0 p1 ky kw kn : Int) (l : List V3) (sv : Value) (w : World) (hk : okV (ky, kw, kn)) (hs : ValsAt w sv l) (hsk : SliceOK sv) (hl : l.length ≤ 9223372036854775807) (hok : ∀ x ∈ l, okV x) :
    Calls Try.prog 4 #[.agg #[.int .i64 p0, .int .i64 p1], vV (ky, kw, kn), sv] w fun e w' => e = .returned (.bool true) ∧ Grew w w' := by
  obtain ⟨m, hm⟩ : ∃ m, l.take 300 = m := ⟨_, rfl⟩
  have hml : m.length ≤ 300 := by rw [← hm, List.length_take]; omega
  have hml2 : m.length ≤ l.length := by rw [← hm, List.length_take]; omega
  have HL : Hid (m.length ≤ 9223372036854775807) := by show _ ≤ _; omega
  have HA : Hid (∀ x ∈ m, okV x) := by show ∀ x ∈ m, okV x; rw [← hm]; exact take_ok hok 300
  have HMl : Hid (∀ (i : Nat) (x : V3), m[i]? = some x → l[i]? = some x) := by
    intro i x hx
    rw [← hm, List.getElem?_take] at hx
    split at hx
    · exact hx
    · cases hx
  have HM := Lib.hid hm
  clear hm
  have HS := Lib.hid hs
  have HO := Lib.hid hsk
  obtain ⟨sa, cap, rfl, _⟩ := hs
  clear hsk hok
  go_enter Try.func4, Try.ntmps4
  go_wp2_with fail
  refine (few_any l _ _ (HS.out.grew (((Grew.refl w).alloc _).alloc _)) HO.out hl).mono ?_
  rintro e w1 ⟨v1, rfl, hown, hg⟩
  have c0 := hg.cell (p := ⟨w.heap.size, 0, none⟩) (v := .int .i64 p0) (by go_simp)
  have c1 := hg.cell (p := ⟨w.heap.size, 1, none⟩) (v := .int .i64 p1) (by go_simp)
  have k0 := hg.cell (p := ⟨w.heap.size + 1, 0, none⟩) (v := .int .i64 ky) (by go_simp)
  have k1 := hg.cell (p := ⟨w.heap.size + 1, 1, none⟩) (v := .int .i64 kw) (by go_simp)
  have k2 := hg.cell (p := ⟨w.heap.size + 1, 2, none⟩) (v := .int .u64 kn) (by go_simp)
  have g1 := (((Grew.refl w).alloc _).alloc _).trans hg
  have HV1 : Hid (ValsAt w1 v1 m) := by show ValsAt w1 v1 m; rw [← HM.out]; exact hown.vals
  clear hg hown
  go_wp2_with fail
  refine wp_region_tables Grew [[], [0], [], [2], [], [], [1, 3, 4, 5], [], [7], [], [9], [], [], [12], [8, 10, 11, 13], [6, 14], [15]] [[(14, 2), (15, 3), (16, 4), (17, 5), (18, 6), (19, 7), (20, 8), (21, 9), (22, 10), (23, 11), (24, 12), (25, 13), (26, 14), (27, 15), (8, 16)], [(12, 0), (14, 2), (15, 3), (16, 4), (17, 5), (19, 7), (20, 8), (21, 9), (22, 10), (23, 11), (24, 12), (25, 13), (26, 14), (27, 15), (8, 16)], [(12, 0), (13, 1), (16, 4), (17, 5), (18, 6), (19, 7), (20, 8), (21, 9), (22, 10), (23, 11), (24, 12), (25, 13), (26, 14), (27, 15), (8, 16)], [(12, 0), (13, 1), (14, 2), (16, 4), (17, 5), (19, 7), (20, 8), (21, 9), (22, 10), (23, 11), (24, 12), (25, 13), (26, 14), (27, 15), (8, 16)], [(12, 0), (13, 1), (14, 2), (15, 3), (17, 5), (19, 7), (20, 8), (21, 9), (22, 10), (23, 11), (24, 12), (25, 13), (26, 14), (27, 15), (8, 16)], [(12, 0), (13, 1), (14, 2), (15, 3), (16, 4), (19, 7), (20, 8), (21, 9), (22, 10), (23, 11), (24, 12), (25, 13), (26, 14), (27, 15), (8, 16)], [(12, 0), (13, 1), (14, 2), (15, 3), (16, 4), (17, 5), (19, 7), (20, 8), (21, 9), (22, 10), (23, 11), (24, 12), (25, 13), (26, 14), (8, 16)], [(12, 0), (13, 1), (14, 2), (15, 3), (16, 4), (17, 5), (18, 6), (21, 9), (22, 10), (23, 11), (24, 12), (25, 13), (26, 14), (27, 15), (8, 16)], [(12, 0), (13, 1), (14, 2), (15, 3), (16, 4), (17, 5), (18, 6), (19, 7), (21, 9), (22, 10), (23, 11), (24, 12), (25, 13), (27, 15), (8, 16)], [(12, 0), (13, 1), (14, 2), (15, 3), (16, 4), (17, 5), (18, 6), (19, 7), (20, 8), (23, 11), (24, 12), (25, 13), (26, 14), (27, 15), (8, 16)], [(12, 0), (13, 1), (14, 2), (15, 3), (16, 4), (17, 5), (18, 6), (19, 7), (20, 8), (21, 9), (23, 11), (24, 12), (25, 13), (27, 15), (8, 16)], [(12, 0), (13, 1), (14, 2), (15, 3), (16, 4), (17, 5), (18, 6), (19, 7), (20, 8), (21, 9), (22, 10), (24, 12), (25, 13), (27, 15), (8, 16)], [(12, 0), (13, 1), (14, 2), (15, 3), (16, 4), (17, 5), (18, 6), (19, 7), (20, 8), (21, 9), (22, 10), (23, 11), (26, 14), (27, 15), (8, 16)], [(12, 0), (13, 1), (14, 2), (15, 3), (16, 4), (17, 5), (18, 6), (19, 7), (20, 8), (21, 9), (22, 10), (23, 11), (24, 12), (27, 15), (8, 16)], [(12, 0), (13, 1), (14, 2), (15, 3), (16, 4), (17, 5), (18, 6), (19, 7), (20, 8), (21, 9), (22, 10), (23, 11), (24, 12), (25, 13), (8, 16)], [(12, 0), (13, 1), (14, 2), (15, 3), (16, 4), (17, 5), (18, 6), (19, 7), (20, 8), (21, 9), (22, 10), (23, 11), (24, 12), (25, 13), (26, 14)], [(12, 0), (13, 1), (14, 2), (15, 3), (16, 4), (17, 5), (18, 6), (19, 7), (20, 8), (21, 9), (22, 10), (23, 11), (24, 12), (25, 13), (26, 14), (27, 15)]] [(12, 0), (13, 1), (14, 2), (15, 3), (16, 4), (17, 5), (18, 6), (19, 7), (20, 8), (21, 9), (22, 10), (23, 11), (24, 12), (25, 13), (26, 14), (27, 15), (8, 16)]
    [Is (.pointer (some ⟨w.heap.size, 0, none⟩)), Is (.int .i64 p0), Is (.pointer (some ⟨w.heap.size, 1, none⟩)), Is (.int .i64 p1), Is (.agg #[.int .i64 ky, .int .i64 kw, .int .u64 kn]), Is (v1), Is (.int .i64 (allF m (ky, kw, kn) p0 p1)), Is (.pointer (some ⟨w.heap.size, 0, none⟩)), Is (.int .i64 p0), Is (.pointer (some ⟨w.heap.size, 1, none⟩)), Is (.int .i64 p1), Is (.agg #[.int .i64 ky, .int .i64 kw, .int .u64 kn]), Is (.slice sa l.length cap), fun v w => ValsAt w v m, Is (.int .i64 (allF m (ky, kw, kn) p0 p1)), Is (.bool true), Is (.bool true)]
    (by kernel_rfl) Grew.trans Grew.refl (Grew.refl _).drew (by kernel_rfl) ⟨is_st, is_st, is_st, is_st, is_st, is_st, is_st, is_st, is_st, is_st, is_st, is_st, is_st, vals_st _, is_st, is_st, is_st, trivial⟩ ⟨?_, ?_, ?_, ?_, ?_, ?_, ?_, ?_, ?_, ?_, ?_, ?_, ?_, ?_, ?_, ?_, ?_, trivial⟩ rfl ?_
  · intro y w4 hG hD K hK
    simp only [fillL, Act.put, List.setIfInBounds_toArray, List.set_cons_zero, List.set_cons_succ, List.getD_cons_zero, List.getD_cons_succ, Is] at hK ⊢
    refine ite_yes (by rfl) ?_
    go_simp
    exact hK _ _ _ rfl (Grew.refl _) rfl
  · intro y w4 hG hD K hK
    simp only [depsH, List.getD_cons_zero, List.getD_cons_succ, Is, and_true] at hD
    have h0 := hD
    clear hD
    have dc0 := hG.cell c0
    have dc1 := hG.cell c1
    have dk0 := hG.cell k0
    have dk1 := hG.cell k1
    have dk2 := hG.cell k2
    simp only [fillL, Act.put, List.setIfInBounds_toArray, List.set_cons_zero, List.set_cons_succ, List.getD_cons_zero, List.getD_cons_succ, Is] at hK ⊢
    rw [h0] at hK ⊢
    refine ite_yes (by rfl) ?_
    go_simp
    exact hK _ _ _ rfl (Grew.refl _) rfl
  · intro y w4 hG hD K hK
    simp only [fillL, Act.put, List.setIfInBounds_toArray, List.set_cons_zero, List.set_cons_succ, List.getD_cons_zero, List.getD_cons_succ, Is] at hK ⊢
    refine ite_yes (by rfl) ?_
    go_simp
    exact hK _ _ _ rfl (Grew.refl _) rfl
  · intro y w4 hG hD K hK
    simp only [depsH, List.getD_cons_zero, List.getD_cons_succ, Is, and_true] at hD
    have h2 := hD
    clear hD
    have dc0 := hG.cell c0
    have dc1 := hG.cell c1
    have dk0 := hG.cell k0
    have dk1 := hG.cell k1
    have dk2 := hG.cell k2
    simp only [fillL, Act.put, List.setIfInBounds_toArray, List.set_cons_zero, List.set_cons_succ, List.getD_cons_zero, List.getD_cons_succ, Is] at hK ⊢
    rw [h2] at hK ⊢
    refine ite_yes (by rfl) ?_
    go_simp
    exact hK _ _ _ rfl (Grew.refl _) rfl
  · intro y w4 hG hD K hK
    have dc0 := hG.cell c0
    have dc1 := hG.cell c1
    have dk0 := hG.cell k0
    have dk1 := hG.cell k1
    have dk2 := hG.cell k2
    simp only [fillL, Act.put, List.setIfInBounds_toArray, List.set_cons_zero, List.set_cons_succ, List.getD_cons_zero, List.getD_cons_succ, Is] at hK ⊢
    refine ite_yes (by rfl) ?_
    go_simp
    exact hK _ _ _ rfl (Grew.refl _) rfl
  · intro y w4 hG hD K hK
    simp only [fillL, Act.put, List.setIfInBounds_toArray, List.set_cons_zero, List.set_cons_succ, List.getD_cons_zero, List.getD_cons_succ, Is] at hK ⊢
    refine ite_yes (by rfl) ?_
    go_simp
    exact hK _ _ _ rfl (Grew.refl _) rfl
  · intro y w4 hG hD K hK
    simp only [depsH, List.getD_cons_zero, List.getD_cons_succ, Is, and_true] at hD
    have h1 := hD.1
    have h3 := hD.2.1
    have h4 := hD.2.2.1
    have h5 := hD.2.2.2
    clear hD
    simp only [fillL, Act.put, List.setIfInBounds_toArray, List.set_cons_zero, List.set_cons_succ, List.getD_cons_zero, List.getD_cons_succ, Is] at hK ⊢
    rw [h1, h3, h4, h5] at hK ⊢
    refine ite_yes (by rfl) ?_
    go_simp
    refine (all_any m (ky, kw, kn) p0 p1 _ _ HL.out HA.out hk (HV1.out.grew hG)).mono ?_
    rintro e w3 ⟨rfl, hg⟩
    exact hK _ _ _ rfl hg rfl
  · intro y w4 hG hD K hK
    simp only [fillL, Act.put, List.setIfInBounds_toArray, List.set_cons_zero, List.set_cons_succ, List.getD_cons_zero, List.getD_cons_succ, Is] at hK ⊢
    refine ite_yes (by rfl) ?_
    go_simp
    exact hK _ _ _ rfl (Grew.refl _) rfl
  · intro y w4 hG hD K hK
    simp only [depsH, List.getD_cons_zero, List.getD_cons_succ, Is, and_true] at hD
    have h7 := hD
    clear hD
    have dc0 := hG.cell c0
    have dc1 := hG.cell c1
    have dk0 := hG.cell k0
    have dk1 := hG.cell k1
    have dk2 := hG.cell k2
    simp only [fillL, Act.put, List.setIfInBounds_toArray, List.set_cons_zero, List.set_cons_succ, List.getD_cons_zero, List.getD_cons_succ, Is] at hK ⊢
    rw [h7] at hK ⊢
    refine ite_yes (by rfl) ?_
    go_simp
    exact hK _ _ _ rfl (Grew.refl _) rfl
  · intro y w4 hG hD K hK
    simp only [fillL, Act.put, List.setIfInBounds_toArray, List.set_cons_zero, List.set_cons_succ, List.getD_cons_zero, List.getD_cons_succ, Is] at hK ⊢
    refine ite_yes (by rfl) ?_
    go_simp
    exact hK _ _ _ rfl (Grew.refl _) rfl
  · intro y w4 hG hD K hK
    simp only [depsH, List.getD_cons_zero, List.getD_cons_succ, Is, and_true] at hD
    have h9 := hD
    clear hD
    have dc0 := hG.cell c0
    have dc1 := hG.cell c1
    have dk0 := hG.cell k0
    have dk1 := hG.cell k1
    have dk2 := hG.cell k2
    simp only [fillL, Act.put, List.setIfInBounds_toArray, List.set_cons_zero, List.set_cons_succ, List.getD_cons_zero, List.getD_cons_succ, Is] at hK ⊢
    rw [h9] at hK ⊢
    refine ite_yes (by rfl) ?_
    go_simp
    exact hK _ _ _ rfl (Grew.refl _) rfl
  · intro y w4 hG hD K hK
    have dc0 := hG.cell c0
    have dc1 := hG.cell c1
    have dk0 := hG.cell k0
    have dk1 := hG.cell k1
    have dk2 := hG.cell k2
    simp only [fillL, Act.put, List.setIfInBounds_toArray, List.set_cons_zero, List.set_cons_succ, List.getD_cons_zero, List.getD_cons_succ, Is] at hK ⊢
    refine ite_yes (by rfl) ?_
    go_simp
    exact hK _ _ _ rfl (Grew.refl _) rfl
  · intro y w4 hG hD K hK
    simp only [fillL, Act.put, List.setIfInBounds_toArray, List.set_cons_zero, List.set_cons_succ, List.getD_cons_zero, List.getD_cons_succ, Is] at hK ⊢
    refine ite_yes (by rfl) ?_
    go_simp
    exact hK _ _ _ rfl (Grew.refl _) rfl
  · intro y w4 hG hD K hK
    simp only [depsH, List.getD_cons_zero, List.getD_cons_succ, Is, and_true] at hD
    have h12 := hD
    clear hD
    simp only [fillL, Act.put, List.setIfInBounds_toArray, List.set_cons_zero, List.set_cons_succ, List.getD_cons_zero, List.getD_cons_succ, Is] at hK ⊢
    rw [h12] at hK ⊢
    refine ite_yes (by rfl) ?_
    go_simp
    refine (few_any l _ _ (HS.out.grew (g1.trans hG)) HO.out hl).mono ?_
    rintro e w3 ⟨v3, rfl, hown, hg⟩
    exact hK _ _ _ rfl hg (by rw [← HM.out]; exact hown.vals)
  · intro y w4 hG hD K hK
    simp only [depsH, List.getD_cons_zero, List.getD_cons_succ, Is, and_true] at hD
    have h8 := hD.1
    have h10 := hD.2.1
    have h11 := hD.2.2.1
    have h13 := hD.2.2.2
    clear hD
    simp only [fillL, Act.put, List.setIfInBounds_toArray, List.set_cons_zero, List.set_cons_succ, List.getD_cons_zero, List.getD_cons_succ, Is] at hK ⊢
    rw [h8, h10, h11] at hK ⊢
    refine ite_yes (by rfl) ?_
    go_simp
    refine (refAll_any m (ky, kw, kn) p0 p1 _ _ HL.out HA.out hk h13).mono ?_
    rintro e w3 ⟨rfl, hg⟩
    exact hK _ _ _ rfl hg rfl
  · intro y w4 hG hD K hK
    simp only [depsH, List.getD_cons_zero, List.getD_cons_succ, Is, and_true] at hD
    have h6 := hD.1
    have h14 := hD.2
    clear hD
    simp only [fillL, Act.put, List.setIfInBounds_toArray, List.set_cons_zero, List.set_cons_succ, List.getD_cons_zero, List.getD_cons_succ, Is] at hK ⊢
    rw [h6, h14] at hK ⊢
    refine ite_yes (by rfl) ?_
    go_simp
    exact hK _ _ _ rfl (Grew.refl _) (by simp)
  · intro y w4 hG hD K hK
    simp only [depsH, List.getD_cons_zero, List.getD_cons_succ, Is, and_true] at hD
    have h15 := hD
    clear hD
    simp only [fillL, Act.put, List.setIfInBounds_toArray, List.set_cons_zero, List.set_cons_succ, List.getD_cons_zero, List.getD_cons_succ, Is] at hK ⊢
    rw [h15] at hK ⊢
    refine ite_yes (by rfl) ?_
    go_simp
    exact hK _ _ _ rfl (Grew.refl _) rfl
  · intro y w4 hG hF
    simp only [factsH, Is, and_true, Nat.reduceAdd] at hF
    have h0 := hF.1
    have h1 := hF.2.1
    have h2 := hF.2.2.1
    have h3 := hF.2.2.2.1
    have h4 := hF.2.2.2.2.1
    have h5 := hF.2.2.2.2.2.1
    have h6 := hF.2.2.2.2.2.2.1
    have h7 := hF.2.2.2.2.2.2.2.1
    have h8 := hF.2.2.2.2.2.2.2.2.1
    have h9 := hF.2.2.2.2.2.2.2.2.2.1
    have h10 := hF.2.2.2.2.2.2.2.2.2.2.1
    have h11 := hF.2.2.2.2.2.2.2.2.2.2.2.1
    have h12 := hF.2.2.2.2.2.2.2.2.2.2.2.2.1
    have h13 := hF.2.2.2.2.2.2.2.2.2.2.2.2.2.1
    have h14 := hF.2.2.2.2.2.2.2.2.2.2.2.2.2.2.1
    have h15 := hF.2.2.2.2.2.2.2.2.2.2.2.2.2.2.2.1
    have h16 := hF.2.2.2.2.2.2.2.2.2.2.2.2.2.2.2.2
    clear hF
    simp only [fillL, Act.put, List.setIfInBounds_toArray, List.set_cons_zero, List.set_cons_succ, List.getD_cons_zero, List.getD_cons_succ, Is]
    rw [h0, h1, h2, h3, h4, h5, h6, h7, h8, h9, h10, h11, h12, h14, h15, h16]
    clear h0 h1 h2 h3 h4 h5 h6 h7 h8 h9 h10 h11 h12 h14 h15 h16
    go_wp2_with fail
    have G4 := g1.trans hG
    have hv1 := HV1.out.grew hG
    have hs1 := HS.out.grew G4
    clear hG
    go_loopw [8, 9] (fun b i wr => Grew w wr ∧ b = .bool true ∧ (∃ k : Nat, k ≤ m.length ∧ i = .int .i64 k) ∧ ValsAt wr v1 m ∧ ValsAt wr (.slice sa l.length cap) l) (fun _ i _ => m.length - (intOf i).toNat)
    case atStart => exact ⟨G4, rfl, ⟨0, by omega, rfl⟩, hv1, hs1⟩
    case round =>
      obtain ⟨hg, rfl, ⟨k, hk2, rfl⟩, hv, hs⟩ := hrel
      have HV2 := Lib.hid hv
      have HS2 := Lib.hid hs
      obtain ⟨a1, cap1, rfl, hc1⟩ := hv
      obtain ⟨sa', cap', hsv, hc2⟩ := hs
      cases hsv
      by_cases hlt : k < m.length
      · obtain ⟨x, hx⟩ : ∃ x, m[k]? = some x := ⟨_, List.getElem?_eq_getElem hlt⟩
        obtain ⟨b1, o1, rfl, e0, e1, e2⟩ := hc1 k x hx
        obtain ⟨b2, o2, rfl, f0, f1, f2⟩ := hc2 k x (HMl.out k x hx)
        obtain ⟨x0, x1, x2⟩ := x
        have hlt2 : k < l.length := by omega
        clear hc1 hc2 hx
        go_wp2_with fail
        go_quiet (fail)
        go_wp2
        go_roundw
        case rel => exact ⟨hg.drewN _, rfl, ⟨k + 1, by omega, by go_num⟩, HV2.out.grew ((Grew.refl _).drewN _), HS2.out.grew ((Grew.refl _).drewN _)⟩
        case measure => simp [intOf]; omega
      · obtain rfl : k = m.length := by omega
        go_wp2_with fail
        refine (works16_any _).mono ?_
        rintro e w5 ⟨rfl, hg5⟩
        go_wp2
        go_ret
        exact ⟨rfl, hg.trans hg5⟩

theorem open_valueB {H : Type} {enc : TypeId × Value → H} {W : World} {base : Nat} {v : Value} {d : DataW H} {p : List MemPlace} (o : Value.okWide Try.prog W .any base 24 v) (k : DataW.Trod enc Try.prog W 0 (fun _ => true) true 24 v d p) :
    ∃ x : V3, v = vV x ∧ okV x := by
  obtain ⟨c0, c1, c2, y0, y1, y2, m, rfl, rfl, rfl, hy0, hy1, hy2⟩ := open_agg3 Try.underlying24 (by kernel_rfl) cellsV o k
  obtain ⟨a, e0, _, wa⟩ := DataW.trod_int Try.underlying3 hy0
  obtain ⟨b, e1, _, wb⟩ := DataW.trod_int Try.underlying3 hy1
  obtain ⟨c, e2, _, wc⟩ := DataW.trod_int Try.underlying22 hy2
  simp at e0 e1 e2
  subst e0 e1 e2
  exact ⟨(a, b, c), rfl, bounds_u64 wc⟩

theorem fitAlls_row {H : Type} (enc : TypeId × Value → H) (W : World) (base : Nat) (v0 : Value) (d0 : DataW H) (p0 : List MemPlace) (o0 : Value.okWide Try.prog W .any base 28 v0) (k0 : DataW.Trod enc Try.prog W 0 (fun _ => true) true 28 v0 d0 p0) (v1 : Value) (d1 : DataW H) (p1 : List MemPlace) (o1 : Value.okWide Try.prog W .any base 24 v1) (k1 : DataW.Trod enc Try.prog W 0 (fun _ => true) true 24 v1 d1 p1) (v2 : Value) (d2 : DataW H) (p2 : List MemPlace) (o2 : Value.okWide Try.prog W .any base 29 v2) (k2 : DataW.Trod enc Try.prog W 0 (fun _ => true) true 29 v2 d2 p2) :
    Calls Try.prog 4 #[v0, v1, v2] W fun e w' => e = .returned (.bool true) ∧ Below W.heap.size W w' := by
  obtain ⟨x, y, rfl, hx, hy⟩ := open_pair2 o0 k0
  obtain ⟨k, rfl, hk⟩ := open_valueB o1 k1
  obtain ⟨l, hl, hlen, hok, hsk⟩ := open_vallist o2 k2
  exact (fitAlls_any x y k.1 k.2.1 k.2.2 l v2 W hk hl hsk hlen hok).mono fun e w' ⟨he, hg⟩ => ⟨he, hg.below⟩

theorem fitAlls_own : ownKnob Try.prog.godebug = none := by kernel_rfl
theorem fitAlls_laidOut : laidOutB Try.prog = true := by kernel_rfl

set_option maxRecDepth 100000 in
theorem fitAlls_lifted (os : Os) (started : os.Started) (H : Type) (enc : TypeId × Value → H) :
    ReturnsInHanded {} Try.checked os 4 .any (Rows.fitAllsSpec.pre6 enc Try.prog Try.f4 Rows.fitAllsRow.domain false) (Rows.fitAllsSpec.post enc Try.prog Try.f4 false true false false) := by
  refine returnsInHanded_of_change (C := Try.checked) fitAlls_own started (by kernel_rfl) Try.func4
    (ChangeSpec.witness6 (enc := enc) (C := Try.checked) false ⟨#[], #[.agg #[.int .i64 0, .int .i64 0], .agg #[.int .i64 0, .int .i64 0, .int .u64 0], .slice none 0 0], []⟩ 8 (by kernel_rfl) (by kernel_rfl) (by kernel_rfl) (by kernel_rfl)) ?_
  intro W base args ds gs before hval0 hW hcnd _
  have hval : ∀ (j : Nat) t v, Try.f4.params[j]? = some t → args[j]? = some v → Value.okWide Try.prog W .any base t v := hval0
  have hW' := hW
  obtain ⟨p, q, hA0, hV, rfl, hfz, hnd⟩ := hW
  have hA : DataW.TrodAll enc Try.prog W 0 (fun _ => true) true Try.f4.params.toList args.toList ds p := hA0
  rw [Try.params4] at hA hval
  obtain ⟨v0, vs0, d0, ds0, p0, q0, hargs, rfl, rfl, h0, r0⟩ := trodAll_cons hA
  obtain ⟨v1, vs1, d1, ds1, p1, q1, rfl, rfl, rfl, h1, r1⟩ := trodAll_cons r0
  obtain ⟨v2, vs2, d2, ds2, p2, q2, rfl, rfl, rfl, h2, r2⟩ := trodAll_cons r1
  obtain ⟨rfl, rfl, rfl⟩ := trodAll_nil r2
  obtain rfl : args = #[v0, v1, v2] := by cases args; simp_all
  obtain ⟨rfl, rfl⟩ := trodVars_none hV
  have lt0 : ∀ x ∈ p0, x.block < W.heap.size := by obtain ⟨m, hm⟩ := h0; exact DataW.trod_lt m _ _ _ hm
  have lt1 : ∀ x ∈ p1, x.block < W.heap.size := by obtain ⟨m, hm⟩ := h1; exact DataW.trod_lt m _ _ _ hm
  have lt2 : ∀ x ∈ p2, x.block < W.heap.size := by obtain ⟨m, hm⟩ := h2; exact DataW.trod_lt m _ _ _ hm
  have hw := fitAlls_row enc W base v0 d0 p0 (hval 0 28 v0 rfl rfl) h0 v1 d1 p1 (hval 1 24 v1 rfl rfl) h1 v2 d2 p2 (hval 2 29 v2 rfl rfl) h2
  clear hA0 hval0
  refine hw.mono fun e W' ⟨he, bel⟩ => ?_
  subst he
  exact ⟨_, rfl, _, _, _, [], _, [], hW', trodAll_mk1 (shut_bool Try.underlying4 _), (trodAll_cons_mk (Below.trod fitAlls_laidOut (by kernel_rfl) (of_decide_eq_true (by kernel_rfl)) h0 bel lt0) (trodAll_cons_mk (Below.trod fitAlls_laidOut (by kernel_rfl) (of_decide_eq_true (by kernel_rfl)) h1 bel lt1) (trodAll_cons_mk (Below.trod fitAlls_laidOut (by kernel_rfl) (of_decide_eq_true (by kernel_rfl)) h2 bel lt2) trodAll_mk0))), rfl, Below.frame bel _, fun h => by cases h⟩

/-- The statement. -/
theorem fitAlls_holds : Rows.FitAllsSaid :=
  OpenClaim.holds_of_wide 4 Try.f4 rfl rfl rfl rfl rfl rfl rfl ⟨rfl, rfl, rfl, rfl, rfl⟩ rfl rfl rfl rfl rfl (by kernel_rfl) Try.func4 (by kernel_rfl)
    (of_decide_eq_true (by kernel_rfl)) (by unfold Func.isWrapper; first | (rw [if_pos (by decide +kernel)]; kernel_rfl) | (rw [if_neg (by decide +kernel)]; exact ⟨rfl, rfl⟩))
    (fun os started H enc _ => fitAlls_lifted os started H enc)

end Go.Proofs.Ytkabfefphdgppaa
