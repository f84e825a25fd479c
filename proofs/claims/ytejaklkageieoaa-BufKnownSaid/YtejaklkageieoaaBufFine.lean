/-
  The law's call fine, and the chapter's examples (works).
-/
import Derived.Test.YtejaklkageieoaaBufDo
namespace Go.Proofs.Ytejaklkageieoaa
open Go Go.ChangeShapes Go.WideShapes Go.ChangeAt Go.RowKit Go.Joins
set_option linter.unusedVariables false
set_option linter.unusedSimpArgs false

def fineS (most : Int) (d : DoV) (s : St) : St :=
  if d.kind % 5 = 0 then alignS most (2 ^ (d.w % 4).toNat) s else if d.kind % 5 = 1 then numS most 8 d.u s
  else if d.kind % 5 = 3 then cutS (d.n % ((s.1.length : Int) + 1)) s else putS most (bytesS [short40 d.s]) s
theorem fineS_le {most : Int} {d : DoV} {s : St} (h : (s.1.length : Int) ≤ most) : ((fineS most d s).1.length : Int) ≤ most := by
  unfold fineS
  repeat' split
  · exact alignS_le h
  · exact numS_le h
  · exact cutS_le h
  · exact putS_le h
set_option maxRecDepth 100000 in
set_option maxHeartbeats 2000000 in
theorem fine_any {B : Nat} {w : World} {p : Nat} {o : Option Nat} {most : Int} (s : St) (d : DoV) (hd : d.ok) (h : BufAt B w p o s.1 most s.2) (hB : B ≤ w.heap.size) (hl : (s.1.length : Int) ≤ most) (hm1 : most ≤ 1048576) :
    Calls Try.prog 20 #[bptr p, doV d] w fun r w' => r = .returned (.tuple #[]) ∧ TurnB B w w' p o most (fineS most d s) := by
  obtain ⟨kind, dw, n, u, st⟩ := d
  obtain ⟨hu0, hu1, hs⟩ := hd
  simp only at hu0 hu1 hs
  have hg : Grew w (w.alloc (.cells #[.int .i64 kind, .int .i64 dw, .int .i64 n, .int .u64 u, .string st] 30)) := (Grew.refl w).alloc _
  have HG := Lib.hid hg
  have HB := Lib.hid (h.grew hg)
  have hB1 := Nat.le_trans hB hg.size
  have HB1 := Lib.hid hB1
  have h40 := short40_size st
  have hk : kind % 5 = 0 ∨ kind % 5 = 1 ∨ kind % 5 = 2 ∨ kind % 5 = 3 ∨ kind % 5 = 4 := by omega
  have hw4 : ∃ v : Int, (v = 1 ∨ v = 2 ∨ v = 4 ∨ v = 8) ∧ (2 : Int) ^ (dw % 4).toNat = v ∧ ∃ j : Int, dw % 4 = j ∧ (j = 0 ∧ v = 1 ∨ j = 1 ∧ v = 2 ∨ j = 2 ∧ v = 4 ∨ j = 3 ∧ v = 8) := by
    have h4 : dw % 4 = 0 ∨ dw % 4 = 1 ∨ dw % 4 = 2 ∨ dw % 4 = 3 := by omega
    rcases h4 with h4 | h4 | h4 | h4 <;> rw [h4]
    · exact ⟨1, by simp, rfl, 0, rfl, by simp⟩
    · exact ⟨2, by simp, rfl, 1, rfl, by simp⟩
    · exact ⟨4, by simp, rfl, 2, rfl, by simp⟩
    · exact ⟨8, by simp, rfl, 3, rfl, by simp⟩
  obtain ⟨v, hv, hpow, j, hj, hjv⟩ := hw4
  have HPOW := Lib.hid hpow
  have hl1 : IntKind.i64.wrap ((s.1.length : Int) + 1) = (s.1.length : Int) + 1 := by rw [IntKind.wrap_i64]; omega
  have HL1 := Lib.hid hl1
  have cn : (w.alloc (.cells #[.int .i64 kind, .int .i64 dw, .int .i64 n, .int .u64 u, .string st] 30)).cell? ⟨w.heap.size, 2, none⟩ = some (.int .i64 n) := by go_simp
  have CN := Lib.hid cn
  clear h hg hB1 hpow hl1 cn
  go_enter Try.func20, Try.ntmps20
  go_wp2_with fail
  refine (bring_any dw 4 _ (by omega) (by omega)).mono ?_
  rw [hj]
  rintro r w' ⟨rfl, rfl⟩
  have hjj : j = 0 ∨ j = 1 ∨ j = 2 ∨ j = 3 := by omega
  have HJV := Lib.hid hjv
  clear hjv hj hv
  rcases hk with hk | hk | hk | hk | hk
  · have HS : Hid (fineS most ⟨kind, dw, n, u, st⟩ s = alignS most v s) := by show _ = _; simp [fineS, hk, HPOW.out]
    rcases hjj with rfl | rfl | rfl | rfl
    all_goals
      go_wp2_with fail
      refine (bring_any kind 5 _ (by omega) (by omega)).mono ?_
      rw [hk]
      rintro r w' ⟨rfl, rfl⟩
      go_wp2_with fail
      refine (align_any s _ HB.out HB1.out hl hm1).mono ?_
      rintro r w5 ⟨rfl, ht⟩
      have HT := Lib.hid (TurnB.after HG.out ht)
      clear ht
      go_wp2
      go_end0
      have hv := HJV.out
      first
        | exact ⟨rfl, by rw [HS.out, show v = 1 by omega]; exact HT.out⟩
        | exact ⟨rfl, by rw [HS.out, show v = 2 by omega]; exact HT.out⟩
        | exact ⟨rfl, by rw [HS.out, show v = 4 by omega]; exact HT.out⟩
        | exact ⟨rfl, by rw [HS.out, show v = 8 by omega]; exact HT.out⟩
  · have HS : Hid (fineS most ⟨kind, dw, n, u, st⟩ s = numS most 8 u s) := by show _ = _; simp [fineS, hk]
    rcases hjj with rfl | rfl | rfl | rfl
    all_goals
      go_wp2_with fail
      refine (bring_any kind 5 _ (by omega) (by omega)).mono ?_
      rw [hk]
      rintro r w' ⟨rfl, rfl⟩
      go_wp2_with fail
      refine (num_any s 8 u HB.out HB1.out hl hm1 hu0 hu1).mono ?_
      rintro r w5 ⟨rfl, ht⟩
      have HT := Lib.hid (TurnB.after HG.out ht)
      clear ht
      go_wp2
      go_end0
      exact ⟨rfl, by rw [HS.out]; exact HT.out⟩
  · have HS : Hid (fineS most ⟨kind, dw, n, u, st⟩ s = putS most (bytesS [short40 st]) s) := by show _ = _; simp [fineS, hk]
    rcases hjj with rfl | rfl | rfl | rfl
    all_goals
      go_wp2_with fail
      refine (bring_any kind 5 _ (by omega) (by omega)).mono ?_
      rw [hk]
      rintro r w' ⟨rfl, rfl⟩
      go_wp2_with fail
      refine (short40_any st _ hs).mono ?_
      rintro r w' ⟨rfl, rfl⟩
      go_wp2_with fail
      refine (textNew1 s (short40 st) _ (by simp) HB.out HB1.out hl hm1 (by simp [sizeS]; omega)).mono ?_
      rintro r w5 ⟨rfl, ht⟩
      have HT := Lib.hid (TurnB.after HG.out ht)
      clear ht
      go_wp2
      go_end0
      exact ⟨rfl, by rw [HS.out]; exact HT.out⟩
  · have HS : Hid (fineS most ⟨kind, dw, n, u, st⟩ s = cutS (n % ((s.1.length : Int) + 1)) s) := by show _ = _; simp [fineS, hk]
    have hl1 := HL1.out
    have cn := CN.out
    rcases hjj with rfl | rfl | rfl | rfl
    all_goals
      go_wp2_with fail
      refine (bring_any kind 5 _ (by omega) (by omega)).mono ?_
      rw [hk]
      rintro r w' ⟨rfl, rfl⟩
      go_wp2_with fail
      refine wp_region_last Grew [[], [], [1], [], [3], [4], [2, 5], [0, 6]] [[(32, 1), (33, 2), (34, 3), (35, 4), (36, 5), (37, 6)], [(31, 0), (34, 3), (35, 4), (36, 5), (37, 6), (38, 7)], [(31, 0), (32, 1), (34, 3), (35, 4), (36, 5), (38, 7)], [(31, 0), (32, 1), (33, 2), (36, 5), (37, 6), (38, 7)], [(31, 0), (32, 1), (33, 2), (34, 3), (37, 6), (38, 7)], [(31, 0), (32, 1), (33, 2), (34, 3), (35, 4), (38, 7)], [(31, 0), (32, 1), (33, 2), (34, 3), (35, 4), (36, 5)], [(31, 0), (32, 1), (33, 2), (34, 3), (35, 4), (36, 5), (37, 6)]]
        [Is (bptr p), Is (.pointer (some ⟨w.heap.size, 2, none⟩)), Is (.int .i64 n), Is (bptr p), Is (.int .i64 (s.1.length : Int)), Is (.int .i64 ((s.1.length : Int) + 1)), Is (.int .i64 (n % ((s.1.length : Int) + 1)))]
        (by kernel_rfl) Grew.trans Grew.refl (Grew.refl _).drew (by kernel_rfl) ⟨is_st, is_st, is_st, is_st, is_st, is_st, is_st, trivial⟩ rfl ⟨?_, ?_, ?_, ?_, ?_, ?_, ?_, trivial⟩ ?_ rfl
      · intro y w2 hG hD K hK
        simp only [fillL, Act.put, List.setIfInBounds_toArray, List.set_cons_zero, List.set_cons_succ, List.getD_cons_zero, List.getD_cons_succ, Is] at hK ⊢
        refine ite_yes (by rfl) ?_
        go_simp
        exact hK _ _ _ rfl (Grew.refl _) rfl
      · intro y w2 hG hD K hK
        simp only [fillL, Act.put, List.setIfInBounds_toArray, List.set_cons_zero, List.set_cons_succ, List.getD_cons_zero, List.getD_cons_succ, Is] at hK ⊢
        refine ite_yes (by rfl) ?_
        go_simp
        exact hK _ _ _ rfl (Grew.refl _) rfl
      · intro y w2 hG hD K hK
        simp only [depsH, List.getD_cons_zero, List.getD_cons_succ, Is, and_true] at hD
        have h1 := hD
        clear hD
        have dcn := hG.cell cn
        simp only [fillL, Act.put, List.setIfInBounds_toArray, List.set_cons_zero, List.set_cons_succ, List.getD_cons_zero, List.getD_cons_succ, Is] at hK ⊢
        rw [h1] at hK ⊢
        clear h1
        refine ite_yes (by rfl) ?_
        go_simp
        exact hK _ _ _ rfl (Grew.refl _) rfl
      · intro y w2 hG hD K hK
        simp only [fillL, Act.put, List.setIfInBounds_toArray, List.set_cons_zero, List.set_cons_succ, List.getD_cons_zero, List.getD_cons_succ, Is] at hK ⊢
        refine ite_yes (by rfl) ?_
        go_simp
        exact hK _ _ _ rfl (Grew.refl _) rfl
      · intro y w2 hG hD K hK
        simp only [depsH, List.getD_cons_zero, List.getD_cons_succ, Is, and_true] at hD
        have h3 := hD
        clear hD
        simp only [fillL, Act.put, List.setIfInBounds_toArray, List.set_cons_zero, List.set_cons_succ, List.getD_cons_zero, List.getD_cons_succ, Is] at hK ⊢
        rw [h3] at hK ⊢
        clear h3
        refine ite_yes (by rfl) ?_
        go_simp
        refine (len_any (HB.out.grew hG)).mono ?_
        rintro r w3 ⟨rfl, rfl⟩
        exact hK _ _ _ rfl (Grew.refl _) rfl
      · intro y w2 hG hD K hK
        simp only [depsH, List.getD_cons_zero, List.getD_cons_succ, Is, and_true] at hD
        have h4 := hD
        clear hD
        simp only [fillL, Act.put, List.setIfInBounds_toArray, List.set_cons_zero, List.set_cons_succ, List.getD_cons_zero, List.getD_cons_succ, Is] at hK ⊢
        rw [h4] at hK ⊢
        clear h4
        refine ite_yes (by rfl) ?_
        go_simp
        exact hK _ _ _ rfl (Grew.refl _) rfl
      · intro y w2 hG hD K hK
        simp only [depsH, List.getD_cons_zero, List.getD_cons_succ, Is, and_true] at hD
        have h2 := hD.1
        have h5 := hD.2
        clear hD
        simp only [fillL, Act.put, List.setIfInBounds_toArray, List.set_cons_zero, List.set_cons_succ, List.getD_cons_zero, List.getD_cons_succ, Is] at hK ⊢
        rw [h2, h5] at hK ⊢
        clear h2 h5
        refine ite_yes (by rfl) ?_
        go_simp
        refine (bring_any n ((s.1.length : Int) + 1) _ (by omega) (by omega)).mono ?_
        rintro r w3 ⟨rfl, rfl⟩
        exact hK _ _ _ rfl (Grew.refl _) rfl
      · intro y w2 hG hF K hK
        simp only [factsH, Is, and_true, Nat.reduceAdd] at hF
        have h0 := hF.1
        have h1 := hF.2.1
        have h2 := hF.2.2.1
        have h3 := hF.2.2.2.1
        have h4 := hF.2.2.2.2.1
        have h5 := hF.2.2.2.2.2.1
        have h6 := hF.2.2.2.2.2.2
        clear hF
        simp only [lastOf]
        simp only [fillL, Act.put, List.setIfInBounds_toArray, List.set_cons_zero, List.set_cons_succ, List.getD_cons_zero, List.getD_cons_succ, Is] at hK ⊢
        rw [h0, h1, h2, h3, h4, h5, h6]
        clear h0 h1 h2 h3 h4 h5 h6
        refine ite_yes (by rfl) ?_
        go_simp
        refine (cutT s (n % ((s.1.length : Int) + 1)) (HB.out.grew hG)).mono ?_
        rintro r w5 ⟨rfl, ht⟩
        refine hK _ _ ?_
        have HT := Lib.hid (TurnB.after HG.out (TurnB.after hG ht))
        clear ht
        go_wp2
        go_end0
        exact ⟨rfl, by rw [HS.out]; exact HT.out⟩
  · have HS : Hid (fineS most ⟨kind, dw, n, u, st⟩ s = putS most (bytesS [short40 st]) s) := by show _ = _; simp [fineS, hk]
    rcases hjj with rfl | rfl | rfl | rfl
    all_goals
      go_wp2_with fail
      refine (bring_any kind 5 _ (by omega) (by omega)).mono ?_
      rw [hk]
      rintro r w' ⟨rfl, rfl⟩
      go_wp2_with fail
      refine (short40_any st _ hs).mono ?_
      rintro r w' ⟨rfl, rfl⟩
      go_wp2_with fail
      refine (textNew1 s (short40 st) _ (by simp) HB.out HB1.out hl hm1 (by simp [sizeS]; omega)).mono ?_
      rintro r w5 ⟨rfl, ht⟩
      have HT := Lib.hid (TurnB.after HG.out ht)
      clear ht
      go_wp2
      go_end0
      exact ⟨rfl, by rw [HS.out]; exact HT.out⟩
theorem fineL {w0 w : World} {p : Nat} {most : Int} {s : St} (d : DoV) (hd : d.ok) (h : Live w0 w p most s) : Calls Try.prog 20 #[bptr p, doV d] w fun r w' => r = .returned (.tuple #[]) ∧ Live w0 w' p most (fineS most d s) := by
  obtain ⟨o, h1, h2, h3, h4⟩ := h
  exact (fine_any s d hd h1 h2.size h3 h4).mono fun r w' ⟨hr, ht⟩ => ⟨hr, Live.turn h1 h2 ht (fineS_le h3) h4⟩
end Go.Proofs.Ytejaklkageieoaa
