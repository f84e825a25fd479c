/-
  Walks of the helpers of accordionlaw16 (text, num, works): works returns true. The world only grows.
-/
import Derived.Test.YtkabfefphdgppaaRefAll
namespace Go.Proofs.Ytkabfefphdgppaa
set_option linter.unusedSimpArgs false
set_option linter.unusedVariables false
open Go Go.RowKit

set_option maxHeartbeats 400000 in
theorem text_any (n : Int) (w : World) :
    Calls Try.prog 18 #[.int .u64 n] w fun e w' => e = .returned (valueV 5 1 n) ∧ Grew w w' := by
  go_enter Try.func18, Try.ntmps18
  go_wp2
  exact bodyPost_ret (v := valueV 5 1 n) (by simp [results, Try.results18, go_sem]) rfl ⟨rfl, (Grew.refl w).alloc _⟩

set_option maxHeartbeats 400000 in
theorem num_any (n : Int) (w : World) :
    Calls Try.prog 22 #[.int .i64 n] w fun e w' => e = .returned (valueV 1 n 0) ∧ Grew w w' := by
  go_enter Try.func22, Try.ntmps22
  go_wp2
  exact bodyPost_ret (v := valueV 1 n 0) (by simp [results, Try.results22, go_sem]) rfl ⟨rfl, (Grew.refl w).alloc _⟩

theorem made_vals (w : World) (n : Nat) (t : TypeId) : ValsAt (w.alloc (.cells (madeCells #[.int .i64 0, .int .i64 0, .int .u64 0] (n * 3)) t)) (.slice (some ⟨w.heap.size, 0, none⟩) n n) (List.replicate n (0, 0, 0)) := by
  refine ⟨some ⟨w.heap.size, 0, none⟩, n, by rw [List.length_replicate], fun i x hx => ⟨w.heap.size, 0, rfl, ?_⟩⟩
  have hi : i < n := by
    have := (List.getElem?_eq_some_iff.1 hx).1
    simpa using this
  obtain rfl : x = (0, 0, 0) := by
    rw [List.getElem?_replicate, if_pos hi] at hx
    exact (Option.some.inj hx).symm
  have hr : ∀ o, (w.alloc (.cells (madeCells #[.int .i64 0, .int .i64 0, .int .u64 0] (n * 3)) t)).cell? ⟨w.heap.size, o, none⟩ = (madeCells #[.int .i64 0, .int .i64 0, .int .u64 0] (n * 3))[o]? := fun o => cell_of_row _ _ _ _ _ _ (heap_alloc_new _ _)
  have hm : ∀ o, o < n * 3 → (madeCells #[.int .i64 0, .int .i64 0, .int .u64 0] (n * 3))[o]? = some ((#[Value.int .i64 0, .int .i64 0, .int .u64 0])[o % 3]!) := fun o ho => by
    unfold madeCells
    rw [Array.getElem?_map, Array.getElem?_range]
    simp [ho]
  refine ⟨?_, ?_, ?_⟩
  · rw [hr, hm _ (by omega), show (0 + i * 3) % 3 = 0 by omega]; rfl
  · rw [hr, hm _ (by omega), show (0 + i * 3 + 1) % 3 = 1 by omega]; rfl
  · rw [hr, hm _ (by omega), show (0 + i * 3 + 2) % 3 = 2 by omega]; rfl

theorem ite_yes {b : Bool} {p q : Prop} (hb : b = true) (h : p) : if b then p else q := by rw [if_pos hb]; exact h
theorem ite_no {b : Bool} {p q : Prop} (hb : b = false) (h : q) : if b then p else q := by rw [if_neg (by simp [hb])]; exact h
def cellsOf3 (x : V3) : List Value := [.int .i64 x.1, .int .i64 x.2.1, .int .u64 x.2.2]
theorem flat_cells : ∀ (l : List V3) (i : Nat) (x : V3), l[i]? = some x → (l.flatMap cellsOf3)[i * 3]? = some (.int .i64 x.1) ∧ (l.flatMap cellsOf3)[i * 3 + 1]? = some (.int .i64 x.2.1) ∧ (l.flatMap cellsOf3)[i * 3 + 2]? = some (.int .u64 x.2.2)
  | a :: r, 0, x, h => by
    obtain rfl : a = x := by simpa using h
    exact ⟨rfl, rfl, rfl⟩
  | a :: r, i + 1, x, h => by
    have ih := flat_cells r i x (by simpa using h)
    rw [List.flatMap_cons, show (i + 1) * 3 = 3 + i * 3 by omega]
    have hl : (cellsOf3 a).length = 3 := rfl
    refine ⟨?_, ?_, ?_⟩
    · rw [List.getElem?_append_right (by omega), hl, show 3 + i * 3 - 3 = i * 3 by omega]; exact ih.1
    · rw [List.getElem?_append_right (by omega), hl, show 3 + i * 3 + 1 - 3 = i * 3 + 1 by omega]; exact ih.2.1
    · rw [List.getElem?_append_right (by omega), hl, show 3 + i * 3 + 2 - 3 = i * 3 + 2 by omega]; exact ih.2.2
theorem built_vals (w : World) (l : List V3) (t : TypeId) : ValsAt (w.alloc (.cells (l.flatMap cellsOf3).toArray t)) (.slice (some ⟨w.heap.size, 0, none⟩) l.length l.length) l := by
  refine ⟨some ⟨w.heap.size, 0, none⟩, l.length, rfl, fun i x hx => ⟨w.heap.size, 0, rfl, ?_⟩⟩
  have hr : ∀ o, (w.alloc (.cells (l.flatMap cellsOf3).toArray t)).cell? ⟨w.heap.size, o, none⟩ = (l.flatMap cellsOf3)[o]? := fun o => by
    rw [cell_of_row _ _ _ _ _ _ (heap_alloc_new _ _)]; simp
  have h := flat_cells l i x hx
  simp only [hr, Nat.zero_add]
  exact h

theorem vals_st (l : List V3) : ∀ v w w', Grew w w' → ValsAt w v l → ValsAt w' v l := fun _ _ _ hg h => h.grew hg

theorem Try.infoValue : (Try.prog.info? 24).map (fun i => (i.zero, i.size, i.bytes)) = some (some (.agg #[.int .i64 0, .int .i64 0, .int .u64 0]), 3, 24) := by kernel_rfl
set_option maxRecDepth 100000 in
set_option maxHeartbeats 4000000 in
theorem works16_any (w : World) : Calls Try.prog 13 #[] w fun e w' => e = .returned (.bool true) ∧ Grew w w' := by
  have a1 : allF [] (0, 0, 0) 0 1 = 1 := by decide +kernel
  have a2 : allF (List.replicate 255 (0, 0, 0)) (0, 0, 0) 0 1 = 1 := by decide +kernel
  have a3 : allF (List.replicate 256 (0, 0, 0)) (0, 0, 0) 0 1 = 2 := by decide +kernel
  have hmk : ∀ (n : Nat) (w : World), n ≤ 1000 → (Instr.makeSlice 29 (.int .i64 n) (.int .i64 n)).run Try.prog w = .ok (.slice (some ⟨w.heap.size, 0, none⟩) n n) (w.alloc (.cells (madeCells #[.int .i64 0, .int .i64 0, .int .u64 0] (n * 3)) 24)) := fun n w hn => by
    obtain ⟨i0, hi, hz0, hz1, hz2⟩ := info_parts Try.infoValue
    have := run_make (P := Try.prog) w 29 24 i0 (.agg #[.int .i64 0, .int .i64 0, .int .u64 0]) Try.underlying29 hi hz0 .i64 .i64 n n (by omega) (by omega) (by rw [hz2]; omega) (by omega)
    rw [hz1] at this
    simpa [Value.cells] using this
  have b1 : allF [(0, 0, 0)] (5, 1, 0) 250 3 = 1 := by decide +kernel
  have b2 : allF [(5, 1, 0), (5, 1, 0), (5, 1, 0), (5, 1, 0)] (5, 1, 0) 250 3 = 2 := by decide +kernel
  have b3 : allF [] (0, 0, 0) 10 2 = 0 := by decide +kernel
  have b4 : allF [] (0, 0, 0) (-1) 0 = 0 := by decide +kernel
  have m255 := fun w => hmk 255 w (by omega)
  have m256 := fun w => hmk 256 w (by omega)
  clear hmk
  simp only [Int.cast_ofNat_Int] at m255 m256
  have o1 : oneF 1 2 0 9 3 = 2 := by decide +kernel
  have o2 : oneF 5 1 5 10 0 = 1 := by decide +kernel
  have o3 : oneF 5 1 10 10 0 = 1 := by decide +kernel
  have o4 : oneF 5 1 11 10 0 = 0 := by decide +kernel
  have o5 : oneF 5 1 0 250 5 = 1 := by decide +kernel
  have o6 : oneF 5 1 0 250 6 = 2 := by decide +kernel
  have o7 : oneF 5 1 0 65534 1 = 4 := by decide +kernel
  have o8 : oneF 5 1 0 65534 0 = 2 := by decide +kernel
  go_enter Try.func13, Try.ntmps13
  go_wp2_with fail
  have G := Grew.refl (w.alloc (.cells #[.int .i64 0, .int .i64 0, .int .u64 0] 24))
  go_wp2_with (first | (go_at_call 18; refine (text_any _ _).mono ?_; rintro e w1 ⟨rfl, hg⟩; replace G := G.trans hg; clear hg) | (go_at_call 22; refine (num_any _ _).mono ?_; rintro e w1 ⟨rfl, hg⟩; replace G := G.trans hg; clear hg) | (go_at_call 11; refine (one_any _ _ _ _ _ _ (by omega) (by omega)).mono ?_; rintro e w1 ⟨rfl, hg⟩; replace G := G.trans hg; clear hg))
  have z0 : (w.alloc (.cells #[.int .i64 0, .int .i64 0, .int .u64 0] 24)).cell? ⟨w.heap.size, 0, none⟩ = some (.int .i64 0) := by go_simp
  have z1 : (w.alloc (.cells #[.int .i64 0, .int .i64 0, .int .u64 0] 24)).cell? ⟨w.heap.size, 1, none⟩ = some (.int .i64 0) := by go_simp
  have z2 : (w.alloc (.cells #[.int .i64 0, .int .i64 0, .int .u64 0] 24)).cell? ⟨w.heap.size, 2, none⟩ = some (.int .u64 0) := by go_simp
  have c0 := G.cell z0
  have c1 := G.cell z1
  have c2 := G.cell z2
  clear z0 z1 z2
  refine wp_region_tables Grew [[], [0], [1], [2], [3], [3], [3, 4, 5], [3, 6], [3, 7], [8], [9], [9], [9, 10, 11], [9, 12], [9, 13]] [[(43, 2), (44, 3), (45, 4), (46, 5), (47, 6), (48, 7), (49, 8), (50, 9), (51, 10), (52, 11), (53, 12), (54, 13), (55, 14)], [(41, 0), (44, 3), (45, 4), (46, 5), (47, 6), (48, 7), (49, 8), (50, 9), (51, 10), (52, 11), (53, 12), (54, 13), (55, 14)], [(41, 0), (42, 1), (45, 4), (46, 5), (47, 6), (48, 7), (49, 8), (50, 9), (51, 10), (52, 11), (53, 12), (54, 13), (55, 14)], [(41, 0), (42, 1), (43, 2), (50, 9), (51, 10), (52, 11), (53, 12), (54, 13), (55, 14)], [(41, 0), (42, 1), (43, 2), (44, 3), (46, 5), (48, 7), (49, 8), (50, 9), (51, 10), (52, 11), (53, 12), (54, 13), (55, 14)], [(41, 0), (42, 1), (43, 2), (44, 3), (45, 4), (48, 7), (49, 8), (50, 9), (51, 10), (52, 11), (53, 12), (54, 13), (55, 14)], [(41, 0), (42, 1), (43, 2), (44, 3), (45, 4), (46, 5), (49, 8), (50, 9), (51, 10), (52, 11), (53, 12), (54, 13), (55, 14)], [(41, 0), (42, 1), (43, 2), (44, 3), (45, 4), (46, 5), (47, 6), (50, 9), (51, 10), (52, 11), (53, 12), (54, 13), (55, 14)], [(41, 0), (42, 1), (43, 2), (44, 3), (45, 4), (46, 5), (47, 6), (48, 7), (51, 10), (52, 11), (53, 12), (54, 13), (55, 14)], [(41, 0), (42, 1), (43, 2), (44, 3), (45, 4), (46, 5), (47, 6), (48, 7), (49, 8)], [(41, 0), (42, 1), (43, 2), (44, 3), (45, 4), (46, 5), (47, 6), (48, 7), (49, 8), (50, 9), (52, 11), (54, 13), (55, 14)], [(41, 0), (42, 1), (43, 2), (44, 3), (45, 4), (46, 5), (47, 6), (48, 7), (49, 8), (50, 9), (51, 10), (54, 13), (55, 14)], [(41, 0), (42, 1), (43, 2), (44, 3), (45, 4), (46, 5), (47, 6), (48, 7), (49, 8), (50, 9), (51, 10), (52, 11), (55, 14)], [(41, 0), (42, 1), (43, 2), (44, 3), (45, 4), (46, 5), (47, 6), (48, 7), (49, 8), (50, 9), (51, 10), (52, 11), (53, 12)], [(41, 0), (42, 1), (43, 2), (44, 3), (45, 4), (46, 5), (47, 6), (48, 7), (49, 8), (50, 9), (51, 10), (52, 11), (53, 12), (54, 13)]] [(41, 0), (42, 1), (43, 2), (44, 3), (45, 4), (46, 5), (47, 6), (48, 7), (49, 8), (50, 9), (51, 10), (52, 11), (53, 12), (54, 13), (55, 14)]
    [Is (.agg #[.int .i64 0, .int .i64 0, .int .u64 0]), Is (.int .i64 1), Is (.bool false), Is (.bool false), Is (.agg #[.int .i64 0, .int .i64 0, .int .u64 0]), fun v w => ValsAt w v (List.replicate 255 (0, 0, 0)), Is (.int .i64 1), Is (.bool false), Is (.bool false), Is (.bool false), Is (.agg #[.int .i64 0, .int .i64 0, .int .u64 0]), fun v w => ValsAt w v (List.replicate 256 (0, 0, 0)), Is (.int .i64 2), Is (.bool false), Is (.bool false)]
    (by kernel_rfl) Grew.trans Grew.refl (Grew.refl _).drew (by kernel_rfl) ⟨is_st, is_st, is_st, is_st, is_st, vals_st _, is_st, is_st, is_st, is_st, is_st, vals_st _, is_st, is_st, is_st, trivial⟩ ⟨?_, ?_, ?_, ?_, ?_, ?_, ?_, ?_, ?_, ?_, ?_, ?_, ?_, ?_, ?_, trivial⟩ rfl ?_
  · intro y w2 hG hD K hK
    have dc0 := hG.cell c0
    have dc1 := hG.cell c1
    have dc2 := hG.cell c2
    simp only [fillL, Act.put, List.setIfInBounds_toArray, List.set_cons_zero, List.set_cons_succ, List.getD_cons_zero, List.getD_cons_succ, Is] at hK ⊢
    refine ite_yes (by rfl) ?_
    go_simp
    exact hK _ _ _ rfl (Grew.refl _) rfl
  · intro y w2 hG hD K hK
    simp only [depsH, List.getD_cons_zero, List.getD_cons_succ, Is, and_true] at hD
    have h0 := hD
    clear hD
    simp only [fillL, Act.put, List.setIfInBounds_toArray, List.set_cons_zero, List.set_cons_succ, List.getD_cons_zero, List.getD_cons_succ, Is] at hK ⊢
    rw [h0] at hK ⊢
    refine ite_yes (by rfl) ?_
    go_simp
    refine (all_any [] (0, 0, 0) 0 1 _ _ (by simp) (by simp) ⟨by decide, by decide⟩ ⟨none, 0, rfl, by simp⟩).mono ?_
    rw [a1]
    rintro e w3 ⟨rfl, hg⟩
    exact hK _ _ _ rfl hg rfl
  · intro y w2 hG hD K hK
    simp only [depsH, List.getD_cons_zero, List.getD_cons_succ, Is, and_true] at hD
    have h1 := hD
    clear hD
    simp only [fillL, Act.put, List.setIfInBounds_toArray, List.set_cons_zero, List.set_cons_succ, List.getD_cons_zero, List.getD_cons_succ, Is] at hK ⊢
    rw [h1] at hK ⊢
    refine ite_yes (by rfl) ?_
    go_simp
    exact hK _ _ _ rfl (Grew.refl _) rfl
  · intro y w2 hG hD K hK
    simp only [depsH, List.getD_cons_zero, List.getD_cons_succ, Is, and_true] at hD
    have h2 := hD
    clear hD
    simp only [fillL, Act.put, List.setIfInBounds_toArray, List.set_cons_zero, List.set_cons_succ, List.getD_cons_zero, List.getD_cons_succ, Is] at hK ⊢
    rw [h2] at hK ⊢
    refine ite_yes (by rfl) ?_
    go_simp
    exact hK _ _ _ rfl (Grew.refl _) rfl
  · intro y w2 hG hD K hK
    simp only [depsH, List.getD_cons_zero, List.getD_cons_succ, Is, and_true] at hD
    have h3 := hD
    clear hD
    have dc0 := hG.cell c0
    have dc1 := hG.cell c1
    have dc2 := hG.cell c2
    simp only [fillL, Act.put, List.setIfInBounds_toArray, List.set_cons_zero, List.set_cons_succ, List.getD_cons_zero, List.getD_cons_succ, Is] at hK ⊢
    rw [h3] at hK ⊢
    refine ite_yes (by rfl) ?_
    go_simp
    exact hK _ _ _ rfl (Grew.refl _) rfl
  · intro y w2 hG hD K hK
    simp only [depsH, List.getD_cons_zero, List.getD_cons_succ, Is, and_true] at hD
    have h3 := hD
    clear hD
    simp only [fillL, Act.put, List.setIfInBounds_toArray, List.set_cons_zero, List.set_cons_succ, List.getD_cons_zero, List.getD_cons_succ, Is] at hK ⊢
    rw [h3] at hK ⊢
    refine ite_yes (by rfl) ?_
    go_simp
    exact hK _ _ _ rfl ((Grew.refl _).alloc _) (made_vals _ 255 _)
  · intro y w2 hG hD K hK
    simp only [depsH, List.getD_cons_zero, List.getD_cons_succ, Is, and_true] at hD
    have h3 := hD.1
    have h4 := hD.2.1
    have h5 := hD.2.2
    clear hD
    simp only [fillL, Act.put, List.setIfInBounds_toArray, List.set_cons_zero, List.set_cons_succ, List.getD_cons_zero, List.getD_cons_succ, Is] at hK ⊢
    rw [h3, h4] at hK ⊢
    refine ite_yes (by rfl) ?_
    go_simp
    refine (all_any (List.replicate 255 (0, 0, 0)) (0, 0, 0) 0 1 _ _ (by simp) (by intro x hx; rw [List.eq_of_mem_replicate hx]; exact ⟨by decide, by decide⟩) ⟨by decide, by decide⟩ h5).mono ?_
    rw [a2]
    rintro e w3 ⟨rfl, hg⟩
    exact hK _ _ _ rfl hg rfl
  · intro y w2 hG hD K hK
    simp only [depsH, List.getD_cons_zero, List.getD_cons_succ, Is, and_true] at hD
    have h3 := hD.1
    have h6 := hD.2
    clear hD
    simp only [fillL, Act.put, List.setIfInBounds_toArray, List.set_cons_zero, List.set_cons_succ, List.getD_cons_zero, List.getD_cons_succ, Is] at hK ⊢
    rw [h3, h6] at hK ⊢
    refine ite_yes (by rfl) ?_
    go_simp
    exact hK _ _ _ rfl (Grew.refl _) rfl
  · intro y w2 hG hD K hK
    simp only [depsH, List.getD_cons_zero, List.getD_cons_succ, Is, and_true] at hD
    have h3 := hD.1
    have h7 := hD.2
    clear hD
    simp only [fillL, Act.put, List.setIfInBounds_toArray, List.set_cons_zero, List.set_cons_succ, List.getD_cons_zero, List.getD_cons_succ, Is] at hK ⊢
    rw [h3, h7] at hK ⊢
    refine ite_yes (by rfl) ?_
    go_simp
    exact hK _ _ _ rfl (Grew.refl _) rfl
  · intro y w2 hG hD K hK
    simp only [depsH, List.getD_cons_zero, List.getD_cons_succ, Is, and_true] at hD
    have h8 := hD
    clear hD
    simp only [fillL, Act.put, List.setIfInBounds_toArray, List.set_cons_zero, List.set_cons_succ, List.getD_cons_zero, List.getD_cons_succ, Is] at hK ⊢
    rw [h8] at hK ⊢
    refine ite_yes (by rfl) ?_
    go_simp
    exact hK _ _ _ rfl (Grew.refl _) rfl
  · intro y w2 hG hD K hK
    simp only [depsH, List.getD_cons_zero, List.getD_cons_succ, Is, and_true] at hD
    have h9 := hD
    clear hD
    have dc0 := hG.cell c0
    have dc1 := hG.cell c1
    have dc2 := hG.cell c2
    simp only [fillL, Act.put, List.setIfInBounds_toArray, List.set_cons_zero, List.set_cons_succ, List.getD_cons_zero, List.getD_cons_succ, Is] at hK ⊢
    rw [h9] at hK ⊢
    refine ite_yes (by rfl) ?_
    go_simp
    exact hK _ _ _ rfl (Grew.refl _) rfl
  · intro y w2 hG hD K hK
    simp only [depsH, List.getD_cons_zero, List.getD_cons_succ, Is, and_true] at hD
    have h9 := hD
    clear hD
    simp only [fillL, Act.put, List.setIfInBounds_toArray, List.set_cons_zero, List.set_cons_succ, List.getD_cons_zero, List.getD_cons_succ, Is] at hK ⊢
    rw [h9] at hK ⊢
    refine ite_yes (by rfl) ?_
    go_simp
    exact hK _ _ _ rfl ((Grew.refl _).alloc _) (made_vals _ 256 _)
  · intro y w2 hG hD K hK
    simp only [depsH, List.getD_cons_zero, List.getD_cons_succ, Is, and_true] at hD
    have h9 := hD.1
    have h10 := hD.2.1
    have h11 := hD.2.2
    clear hD
    simp only [fillL, Act.put, List.setIfInBounds_toArray, List.set_cons_zero, List.set_cons_succ, List.getD_cons_zero, List.getD_cons_succ, Is] at hK ⊢
    rw [h9, h10] at hK ⊢
    refine ite_yes (by rfl) ?_
    go_simp
    refine (all_any (List.replicate 256 (0, 0, 0)) (0, 0, 0) 0 1 _ _ (by simp) (by intro x hx; rw [List.eq_of_mem_replicate hx]; exact ⟨by decide, by decide⟩) ⟨by decide, by decide⟩ h11).mono ?_
    rw [a3]
    rintro e w3 ⟨rfl, hg⟩
    exact hK _ _ _ rfl hg rfl
  · intro y w2 hG hD K hK
    simp only [depsH, List.getD_cons_zero, List.getD_cons_succ, Is, and_true] at hD
    have h9 := hD.1
    have h12 := hD.2
    clear hD
    simp only [fillL, Act.put, List.setIfInBounds_toArray, List.set_cons_zero, List.set_cons_succ, List.getD_cons_zero, List.getD_cons_succ, Is] at hK ⊢
    rw [h9, h12] at hK ⊢
    refine ite_yes (by rfl) ?_
    go_simp
    exact hK _ _ _ rfl (Grew.refl _) rfl
  · intro y w2 hG hD K hK
    simp only [depsH, List.getD_cons_zero, List.getD_cons_succ, Is, and_true] at hD
    have h9 := hD.1
    have h13 := hD.2
    clear hD
    simp only [fillL, Act.put, List.setIfInBounds_toArray, List.set_cons_zero, List.set_cons_succ, List.getD_cons_zero, List.getD_cons_succ, Is] at hK ⊢
    rw [h9, h13] at hK ⊢
    refine ite_yes (by rfl) ?_
    go_simp
    exact hK _ _ _ rfl (Grew.refl _) rfl
  · intro y w2 hG hF
    simp only [factsH, Is, and_true, Nat.reduceAdd] at hF
    have h0 := hF.1
    have h1 := hF.2.1
    have h2 := hF.2.2.1
    have h3 := hF.2.2.2.1
    have h4 := hF.2.2.2.2.1
    have h5 := hF.2.2.2.2.2.1
    have h6 := hF.2.2.2.2.2.2.1
    have h7 := hF.2.2.2.2.2.2.2.1
    have h8 := hF.2.2.2.2.2.2.2.2.1
    have h9 := hF.2.2.2.2.2.2.2.2.2.1
    have h10 := hF.2.2.2.2.2.2.2.2.2.2.1
    have h11 := hF.2.2.2.2.2.2.2.2.2.2.2.1
    have h12 := hF.2.2.2.2.2.2.2.2.2.2.2.2.1
    have h13 := hF.2.2.2.2.2.2.2.2.2.2.2.2.2.1
    have h14 := hF.2.2.2.2.2.2.2.2.2.2.2.2.2.2
    clear hF
    simp only [fillL, Act.put, List.setIfInBounds_toArray, List.set_cons_zero, List.set_cons_succ, List.getD_cons_zero, List.getD_cons_succ, Is]
    rw [h0, h1, h2, h3, h4, h6, h7, h8, h9, h10, h12, h13, h14]
    clear h0 h1 h2 h3 h4 h6 h7 h8 h9 h10 h12 h13 h14
    go_wp2_with fail
    replace G := G.trans hG
    replace c0 := hG.cell c0
    replace c1 := hG.cell c1
    replace c2 := hG.cell c2
    clear hG
    refine wp_region_tables Grew [[], [], [1], [0, 2], [3], [4], [5], [5], [5], [5], [5], [5, 7, 8, 9, 10], [5, 6, 11], [5, 12], [5, 13], [14], [15], [15, 16], [15, 17], [15, 18], [19], [20], [20, 21], [20, 22], [20, 23], [24]] [[(57, 1), (58, 2), (60, 4), (61, 5), (62, 6), (63, 7), (64, 8), (65, 9), (66, 10), (67, 11), (68, 12), (69, 13), (70, 14), (71, 15), (72, 16), (73, 17), (74, 18), (75, 19), (76, 20), (77, 21), (78, 22), (79, 23), (80, 24), (0, 25)], [(56, 0), (59, 3), (60, 4), (61, 5), (62, 6), (63, 7), (64, 8), (65, 9), (66, 10), (67, 11), (68, 12), (69, 13), (70, 14), (71, 15), (72, 16), (73, 17), (74, 18), (75, 19), (76, 20), (77, 21), (78, 22), (79, 23), (80, 24), (0, 25)], [(56, 0), (57, 1), (60, 4), (61, 5), (62, 6), (63, 7), (64, 8), (65, 9), (66, 10), (67, 11), (68, 12), (69, 13), (70, 14), (71, 15), (72, 16), (73, 17), (74, 18), (75, 19), (76, 20), (77, 21), (78, 22), (79, 23), (80, 24), (0, 25)], [(56, 0), (57, 1), (58, 2), (61, 5), (62, 6), (63, 7), (64, 8), (65, 9), (66, 10), (67, 11), (68, 12), (69, 13), (70, 14), (71, 15), (72, 16), (73, 17), (74, 18), (75, 19), (76, 20), (77, 21), (78, 22), (79, 23), (80, 24), (0, 25)], [(56, 0), (57, 1), (58, 2), (59, 3), (62, 6), (63, 7), (64, 8), (65, 9), (66, 10), (67, 11), (68, 12), (69, 13), (70, 14), (71, 15), (72, 16), (73, 17), (74, 18), (75, 19), (76, 20), (77, 21), (78, 22), (79, 23), (80, 24), (0, 25)], [(56, 0), (57, 1), (58, 2), (59, 3), (60, 4), (71, 15), (72, 16), (73, 17), (74, 18), (75, 19), (76, 20), (77, 21), (78, 22), (79, 23), (80, 24), (0, 25)], [(56, 0), (57, 1), (58, 2), (59, 3), (60, 4), (61, 5), (63, 7), (64, 8), (65, 9), (66, 10), (67, 11), (69, 13), (70, 14), (71, 15), (72, 16), (73, 17), (74, 18), (75, 19), (76, 20), (77, 21), (78, 22), (79, 23), (80, 24), (0, 25)], [(56, 0), (57, 1), (58, 2), (59, 3), (60, 4), (61, 5), (62, 6), (64, 8), (65, 9), (66, 10), (68, 12), (69, 13), (70, 14), (71, 15), (72, 16), (73, 17), (74, 18), (75, 19), (76, 20), (77, 21), (78, 22), (79, 23), (80, 24), (0, 25)], [(56, 0), (57, 1), (58, 2), (59, 3), (60, 4), (61, 5), (62, 6), (63, 7), (65, 9), (66, 10), (68, 12), (69, 13), (70, 14), (71, 15), (72, 16), (73, 17), (74, 18), (75, 19), (76, 20), (77, 21), (78, 22), (79, 23), (80, 24), (0, 25)], [(56, 0), (57, 1), (58, 2), (59, 3), (60, 4), (61, 5), (62, 6), (63, 7), (64, 8), (66, 10), (68, 12), (69, 13), (70, 14), (71, 15), (72, 16), (73, 17), (74, 18), (75, 19), (76, 20), (77, 21), (78, 22), (79, 23), (80, 24), (0, 25)], [(56, 0), (57, 1), (58, 2), (59, 3), (60, 4), (61, 5), (62, 6), (63, 7), (64, 8), (65, 9), (68, 12), (69, 13), (70, 14), (71, 15), (72, 16), (73, 17), (74, 18), (75, 19), (76, 20), (77, 21), (78, 22), (79, 23), (80, 24), (0, 25)], [(56, 0), (57, 1), (58, 2), (59, 3), (60, 4), (61, 5), (62, 6), (63, 7), (64, 8), (65, 9), (66, 10), (69, 13), (70, 14), (71, 15), (72, 16), (73, 17), (74, 18), (75, 19), (76, 20), (77, 21), (78, 22), (79, 23), (80, 24), (0, 25)], [(56, 0), (57, 1), (58, 2), (59, 3), (60, 4), (61, 5), (62, 6), (63, 7), (64, 8), (65, 9), (66, 10), (67, 11), (70, 14), (71, 15), (72, 16), (73, 17), (74, 18), (75, 19), (76, 20), (77, 21), (78, 22), (79, 23), (80, 24), (0, 25)], [(56, 0), (57, 1), (58, 2), (59, 3), (60, 4), (61, 5), (62, 6), (63, 7), (64, 8), (65, 9), (66, 10), (67, 11), (68, 12), (71, 15), (72, 16), (73, 17), (74, 18), (75, 19), (76, 20), (77, 21), (78, 22), (79, 23), (80, 24), (0, 25)], [(56, 0), (57, 1), (58, 2), (59, 3), (60, 4), (61, 5), (62, 6), (63, 7), (64, 8), (65, 9), (66, 10), (67, 11), (68, 12), (69, 13), (72, 16), (73, 17), (74, 18), (75, 19), (76, 20), (77, 21), (78, 22), (79, 23), (80, 24), (0, 25)], [(56, 0), (57, 1), (58, 2), (59, 3), (60, 4), (61, 5), (62, 6), (63, 7), (64, 8), (65, 9), (66, 10), (67, 11), (68, 12), (69, 13), (70, 14), (76, 20), (77, 21), (78, 22), (79, 23), (80, 24), (0, 25)], [(56, 0), (57, 1), (58, 2), (59, 3), (60, 4), (61, 5), (62, 6), (63, 7), (64, 8), (65, 9), (66, 10), (67, 11), (68, 12), (69, 13), (70, 14), (71, 15), (74, 18), (75, 19), (76, 20), (77, 21), (78, 22), (79, 23), (80, 24), (0, 25)], [(56, 0), (57, 1), (58, 2), (59, 3), (60, 4), (61, 5), (62, 6), (63, 7), (64, 8), (65, 9), (66, 10), (67, 11), (68, 12), (69, 13), (70, 14), (71, 15), (72, 16), (75, 19), (76, 20), (77, 21), (78, 22), (79, 23), (80, 24), (0, 25)], [(56, 0), (57, 1), (58, 2), (59, 3), (60, 4), (61, 5), (62, 6), (63, 7), (64, 8), (65, 9), (66, 10), (67, 11), (68, 12), (69, 13), (70, 14), (71, 15), (72, 16), (73, 17), (76, 20), (77, 21), (78, 22), (79, 23), (80, 24), (0, 25)], [(56, 0), (57, 1), (58, 2), (59, 3), (60, 4), (61, 5), (62, 6), (63, 7), (64, 8), (65, 9), (66, 10), (67, 11), (68, 12), (69, 13), (70, 14), (71, 15), (72, 16), (73, 17), (74, 18), (77, 21), (78, 22), (79, 23), (80, 24), (0, 25)], [(56, 0), (57, 1), (58, 2), (59, 3), (60, 4), (61, 5), (62, 6), (63, 7), (64, 8), (65, 9), (66, 10), (67, 11), (68, 12), (69, 13), (70, 14), (71, 15), (72, 16), (73, 17), (74, 18), (75, 19), (0, 25)], [(56, 0), (57, 1), (58, 2), (59, 3), (60, 4), (61, 5), (62, 6), (63, 7), (64, 8), (65, 9), (66, 10), (67, 11), (68, 12), (69, 13), (70, 14), (71, 15), (72, 16), (73, 17), (74, 18), (75, 19), (76, 20), (79, 23), (80, 24), (0, 25)], [(56, 0), (57, 1), (58, 2), (59, 3), (60, 4), (61, 5), (62, 6), (63, 7), (64, 8), (65, 9), (66, 10), (67, 11), (68, 12), (69, 13), (70, 14), (71, 15), (72, 16), (73, 17), (74, 18), (75, 19), (76, 20), (77, 21), (80, 24), (0, 25)], [(56, 0), (57, 1), (58, 2), (59, 3), (60, 4), (61, 5), (62, 6), (63, 7), (64, 8), (65, 9), (66, 10), (67, 11), (68, 12), (69, 13), (70, 14), (71, 15), (72, 16), (73, 17), (74, 18), (75, 19), (76, 20), (77, 21), (78, 22), (0, 25)], [(56, 0), (57, 1), (58, 2), (59, 3), (60, 4), (61, 5), (62, 6), (63, 7), (64, 8), (65, 9), (66, 10), (67, 11), (68, 12), (69, 13), (70, 14), (71, 15), (72, 16), (73, 17), (74, 18), (75, 19), (76, 20), (77, 21), (78, 22), (79, 23)], [(56, 0), (57, 1), (58, 2), (59, 3), (60, 4), (61, 5), (62, 6), (63, 7), (64, 8), (65, 9), (66, 10), (67, 11), (68, 12), (69, 13), (70, 14), (71, 15), (72, 16), (73, 17), (74, 18), (75, 19), (76, 20), (77, 21), (78, 22), (79, 23), (80, 24)]] [(56, 0), (57, 1), (58, 2), (59, 3), (60, 4), (61, 5), (62, 6), (63, 7), (64, 8), (65, 9), (66, 10), (67, 11), (68, 12), (69, 13), (70, 14), (71, 15), (72, 16), (73, 17), (74, 18), (75, 19), (76, 20), (77, 21), (78, 22), (79, 23), (80, 24), (0, 25)]
      [Is (valueV 5 1 0), Is (.agg #[.int .i64 0, .int .i64 0, .int .u64 0]), fun v w => ValsAt w v [(0, 0, 0)], Is (.int .i64 1), Is (.bool true), Is (.bool true), Is (valueV 5 1 0), Is (valueV 5 1 0), Is (valueV 5 1 0), Is (valueV 5 1 0), Is (valueV 5 1 0), fun v w => ValsAt w v [(5, 1, 0), (5, 1, 0), (5, 1, 0), (5, 1, 0)], Is (.int .i64 2), Is (.bool true), Is (.bool true), Is (.bool true), Is (.agg #[.int .i64 0, .int .i64 0, .int .u64 0]), Is (.int .i64 0), Is (.bool true), Is (.bool true), Is (.bool true), Is (.agg #[.int .i64 0, .int .i64 0, .int .u64 0]), Is (.int .i64 0), Is (.bool true), Is (.bool true), Is (.bool true)]
      (by kernel_rfl) Grew.trans Grew.refl (Grew.refl _).drew (by kernel_rfl) ⟨is_st, is_st, vals_st _, is_st, is_st, is_st, is_st, is_st, is_st, is_st, is_st, vals_st _, is_st, is_st, is_st, is_st, is_st, is_st, is_st, is_st, is_st, is_st, is_st, is_st, is_st, is_st, trivial⟩ ⟨?_, ?_, ?_, ?_, ?_, ?_, ?_, ?_, ?_, ?_, ?_, ?_, ?_, ?_, ?_, ?_, ?_, ?_, ?_, ?_, ?_, ?_, ?_, ?_, ?_, ?_, trivial⟩ rfl ?_
    · intro y w2 hG hD K hK
      simp only [fillL, Act.put, List.setIfInBounds_toArray, List.set_cons_zero, List.set_cons_succ, List.getD_cons_zero, List.getD_cons_succ, Is] at hK ⊢
      refine ite_yes (by rfl) ?_
      go_simp
      refine (text_any _ _).mono ?_
      rintro e w3 ⟨rfl, hg⟩
      exact hK _ _ _ rfl hg rfl
    · intro y w2 hG hD K hK
      have dc0 := hG.cell c0
      have dc1 := hG.cell c1
      have dc2 := hG.cell c2
      simp only [fillL, Act.put, List.setIfInBounds_toArray, List.set_cons_zero, List.set_cons_succ, List.getD_cons_zero, List.getD_cons_succ, Is] at hK ⊢
      refine ite_yes (by rfl) ?_
      go_simp
      exact hK _ _ _ rfl (Grew.refl _) rfl
    · intro y w2 hG hD K hK
      simp only [depsH, List.getD_cons_zero, List.getD_cons_succ, Is, and_true] at hD
      have h1 := hD
      clear hD
      simp only [fillL, Act.put, List.setIfInBounds_toArray, List.set_cons_zero, List.set_cons_succ, List.getD_cons_zero, List.getD_cons_succ, Is] at hK ⊢
      rw [h1] at hK ⊢
      refine ite_yes (by rfl) ?_
      go_simp
      exact hK _ _ _ rfl ((Grew.refl _).alloc _) (built_vals w2 [(0, 0, 0)] _)
    · intro y w2 hG hD K hK
      simp only [depsH, List.getD_cons_zero, List.getD_cons_succ, Is, and_true] at hD
      have h0 := hD.1
      have h2 := hD.2
      clear hD
      simp only [fillL, Act.put, List.setIfInBounds_toArray, List.set_cons_zero, List.set_cons_succ, List.getD_cons_zero, List.getD_cons_succ, Is] at hK ⊢
      rw [h0] at hK ⊢
      refine ite_yes (by rfl) ?_
      go_simp
      refine (all_any [(0, 0, 0)] (5, 1, 0) 250 3 _ _ (by simp) (by intro x hx; simp at hx; subst hx; exact ⟨by decide, by decide⟩) ⟨by decide, by decide⟩ h2).mono ?_
      rw [b1]
      rintro e w3 ⟨rfl, hg⟩
      exact hK _ _ _ rfl hg rfl
    · intro y w2 hG hD K hK
      simp only [depsH, List.getD_cons_zero, List.getD_cons_succ, Is, and_true] at hD
      have h3 := hD
      clear hD
      simp only [fillL, Act.put, List.setIfInBounds_toArray, List.set_cons_zero, List.set_cons_succ, List.getD_cons_zero, List.getD_cons_succ, Is] at hK ⊢
      rw [h3] at hK ⊢
      refine ite_yes (by rfl) ?_
      go_simp
      exact hK _ _ _ rfl (Grew.refl _) rfl
    · intro y w2 hG hD K hK
      simp only [depsH, List.getD_cons_zero, List.getD_cons_succ, Is, and_true] at hD
      have h4 := hD
      clear hD
      simp only [fillL, Act.put, List.setIfInBounds_toArray, List.set_cons_zero, List.set_cons_succ, List.getD_cons_zero, List.getD_cons_succ, Is] at hK ⊢
      rw [h4] at hK ⊢
      refine ite_yes (by rfl) ?_
      go_simp
      exact hK _ _ _ rfl (Grew.refl _) rfl
    · intro y w2 hG hD K hK
      simp only [depsH, List.getD_cons_zero, List.getD_cons_succ, Is, and_true] at hD
      have h5 := hD
      clear hD
      simp only [fillL, Act.put, List.setIfInBounds_toArray, List.set_cons_zero, List.set_cons_succ, List.getD_cons_zero, List.getD_cons_succ, Is] at hK ⊢
      rw [h5] at hK ⊢
      refine ite_yes (by rfl) ?_
      go_simp
      refine (text_any _ _).mono ?_
      rintro e w3 ⟨rfl, hg⟩
      exact hK _ _ _ rfl hg rfl
    · intro y w2 hG hD K hK
      simp only [depsH, List.getD_cons_zero, List.getD_cons_succ, Is, and_true] at hD
      have h5 := hD
      clear hD
      simp only [fillL, Act.put, List.setIfInBounds_toArray, List.set_cons_zero, List.set_cons_succ, List.getD_cons_zero, List.getD_cons_succ, Is] at hK ⊢
      rw [h5] at hK ⊢
      refine ite_yes (by rfl) ?_
      go_simp
      refine (text_any _ _).mono ?_
      rintro e w3 ⟨rfl, hg⟩
      exact hK _ _ _ rfl hg rfl
    · intro y w2 hG hD K hK
      simp only [depsH, List.getD_cons_zero, List.getD_cons_succ, Is, and_true] at hD
      have h5 := hD
      clear hD
      simp only [fillL, Act.put, List.setIfInBounds_toArray, List.set_cons_zero, List.set_cons_succ, List.getD_cons_zero, List.getD_cons_succ, Is] at hK ⊢
      rw [h5] at hK ⊢
      refine ite_yes (by rfl) ?_
      go_simp
      refine (text_any _ _).mono ?_
      rintro e w3 ⟨rfl, hg⟩
      exact hK _ _ _ rfl hg rfl
    · intro y w2 hG hD K hK
      simp only [depsH, List.getD_cons_zero, List.getD_cons_succ, Is, and_true] at hD
      have h5 := hD
      clear hD
      simp only [fillL, Act.put, List.setIfInBounds_toArray, List.set_cons_zero, List.set_cons_succ, List.getD_cons_zero, List.getD_cons_succ, Is] at hK ⊢
      rw [h5] at hK ⊢
      refine ite_yes (by rfl) ?_
      go_simp
      refine (text_any _ _).mono ?_
      rintro e w3 ⟨rfl, hg⟩
      exact hK _ _ _ rfl hg rfl
    · intro y w2 hG hD K hK
      simp only [depsH, List.getD_cons_zero, List.getD_cons_succ, Is, and_true] at hD
      have h5 := hD
      clear hD
      simp only [fillL, Act.put, List.setIfInBounds_toArray, List.set_cons_zero, List.set_cons_succ, List.getD_cons_zero, List.getD_cons_succ, Is] at hK ⊢
      rw [h5] at hK ⊢
      refine ite_yes (by rfl) ?_
      go_simp
      refine (text_any _ _).mono ?_
      rintro e w3 ⟨rfl, hg⟩
      exact hK _ _ _ rfl hg rfl
    · intro y w2 hG hD K hK
      simp only [depsH, List.getD_cons_zero, List.getD_cons_succ, Is, and_true] at hD
      have h5 := hD.1
      have h7 := hD.2.1
      have h8 := hD.2.2.1
      have h9 := hD.2.2.2.1
      have h10 := hD.2.2.2.2
      clear hD
      simp only [fillL, Act.put, List.setIfInBounds_toArray, List.set_cons_zero, List.set_cons_succ, List.getD_cons_zero, List.getD_cons_succ, Is] at hK ⊢
      rw [h5, h7, h8, h9, h10] at hK ⊢
      refine ite_yes (by rfl) ?_
      go_simp
      exact hK _ _ _ rfl ((Grew.refl _).alloc _) (built_vals w2 [(5, 1, 0), (5, 1, 0), (5, 1, 0), (5, 1, 0)] _)
    · intro y w2 hG hD K hK
      simp only [depsH, List.getD_cons_zero, List.getD_cons_succ, Is, and_true] at hD
      have h5 := hD.1
      have h6 := hD.2.1
      have h11 := hD.2.2
      clear hD
      simp only [fillL, Act.put, List.setIfInBounds_toArray, List.set_cons_zero, List.set_cons_succ, List.getD_cons_zero, List.getD_cons_succ, Is] at hK ⊢
      rw [h5, h6] at hK ⊢
      refine ite_yes (by rfl) ?_
      go_simp
      refine (all_any [(5, 1, 0), (5, 1, 0), (5, 1, 0), (5, 1, 0)] (5, 1, 0) 250 3 _ _ (by simp) (by intro x hx; simp at hx; subst hx; exact ⟨by decide, by decide⟩) ⟨by decide, by decide⟩ h11).mono ?_
      rw [b2]
      rintro e w3 ⟨rfl, hg⟩
      exact hK _ _ _ rfl hg rfl
    · intro y w2 hG hD K hK
      simp only [depsH, List.getD_cons_zero, List.getD_cons_succ, Is, and_true] at hD
      have h5 := hD.1
      have h12 := hD.2
      clear hD
      simp only [fillL, Act.put, List.setIfInBounds_toArray, List.set_cons_zero, List.set_cons_succ, List.getD_cons_zero, List.getD_cons_succ, Is] at hK ⊢
      rw [h5, h12] at hK ⊢
      refine ite_yes (by rfl) ?_
      go_simp
      exact hK _ _ _ rfl (Grew.refl _) rfl
    · intro y w2 hG hD K hK
      simp only [depsH, List.getD_cons_zero, List.getD_cons_succ, Is, and_true] at hD
      have h5 := hD.1
      have h13 := hD.2
      clear hD
      simp only [fillL, Act.put, List.setIfInBounds_toArray, List.set_cons_zero, List.set_cons_succ, List.getD_cons_zero, List.getD_cons_succ, Is] at hK ⊢
      rw [h5, h13] at hK ⊢
      refine ite_yes (by rfl) ?_
      go_simp
      exact hK _ _ _ rfl (Grew.refl _) rfl
    · intro y w2 hG hD K hK
      simp only [depsH, List.getD_cons_zero, List.getD_cons_succ, Is, and_true] at hD
      have h14 := hD
      clear hD
      simp only [fillL, Act.put, List.setIfInBounds_toArray, List.set_cons_zero, List.set_cons_succ, List.getD_cons_zero, List.getD_cons_succ, Is] at hK ⊢
      rw [h14] at hK ⊢
      refine ite_yes (by rfl) ?_
      go_simp
      exact hK _ _ _ rfl (Grew.refl _) rfl
    · intro y w2 hG hD K hK
      simp only [depsH, List.getD_cons_zero, List.getD_cons_succ, Is, and_true] at hD
      have h15 := hD
      clear hD
      have dc0 := hG.cell c0
      have dc1 := hG.cell c1
      have dc2 := hG.cell c2
      simp only [fillL, Act.put, List.setIfInBounds_toArray, List.set_cons_zero, List.set_cons_succ, List.getD_cons_zero, List.getD_cons_succ, Is] at hK ⊢
      rw [h15] at hK ⊢
      refine ite_yes (by rfl) ?_
      go_simp
      exact hK _ _ _ rfl (Grew.refl _) rfl
    · intro y w2 hG hD K hK
      simp only [depsH, List.getD_cons_zero, List.getD_cons_succ, Is, and_true] at hD
      have h15 := hD.1
      have h16 := hD.2
      clear hD
      simp only [fillL, Act.put, List.setIfInBounds_toArray, List.set_cons_zero, List.set_cons_succ, List.getD_cons_zero, List.getD_cons_succ, Is] at hK ⊢
      rw [h15, h16] at hK ⊢
      refine ite_yes (by rfl) ?_
      go_simp
      refine (all_any [] (0, 0, 0) 10 2 _ _ (by simp) (by simp) ⟨by decide, by decide⟩ ⟨none, 0, rfl, by simp⟩).mono ?_
      rw [b3]
      rintro e w3 ⟨rfl, hg⟩
      exact hK _ _ _ rfl hg rfl
    · intro y w2 hG hD K hK
      simp only [depsH, List.getD_cons_zero, List.getD_cons_succ, Is, and_true] at hD
      have h15 := hD.1
      have h17 := hD.2
      clear hD
      simp only [fillL, Act.put, List.setIfInBounds_toArray, List.set_cons_zero, List.set_cons_succ, List.getD_cons_zero, List.getD_cons_succ, Is] at hK ⊢
      rw [h15, h17] at hK ⊢
      refine ite_yes (by rfl) ?_
      go_simp
      exact hK _ _ _ rfl (Grew.refl _) rfl
    · intro y w2 hG hD K hK
      simp only [depsH, List.getD_cons_zero, List.getD_cons_succ, Is, and_true] at hD
      have h15 := hD.1
      have h18 := hD.2
      clear hD
      simp only [fillL, Act.put, List.setIfInBounds_toArray, List.set_cons_zero, List.set_cons_succ, List.getD_cons_zero, List.getD_cons_succ, Is] at hK ⊢
      rw [h15, h18] at hK ⊢
      refine ite_yes (by rfl) ?_
      go_simp
      exact hK _ _ _ rfl (Grew.refl _) rfl
    · intro y w2 hG hD K hK
      simp only [depsH, List.getD_cons_zero, List.getD_cons_succ, Is, and_true] at hD
      have h19 := hD
      clear hD
      simp only [fillL, Act.put, List.setIfInBounds_toArray, List.set_cons_zero, List.set_cons_succ, List.getD_cons_zero, List.getD_cons_succ, Is] at hK ⊢
      rw [h19] at hK ⊢
      refine ite_yes (by rfl) ?_
      go_simp
      exact hK _ _ _ rfl (Grew.refl _) rfl
    · intro y w2 hG hD K hK
      simp only [depsH, List.getD_cons_zero, List.getD_cons_succ, Is, and_true] at hD
      have h20 := hD
      clear hD
      have dc0 := hG.cell c0
      have dc1 := hG.cell c1
      have dc2 := hG.cell c2
      simp only [fillL, Act.put, List.setIfInBounds_toArray, List.set_cons_zero, List.set_cons_succ, List.getD_cons_zero, List.getD_cons_succ, Is] at hK ⊢
      rw [h20] at hK ⊢
      refine ite_yes (by rfl) ?_
      go_simp
      exact hK _ _ _ rfl (Grew.refl _) rfl
    · intro y w2 hG hD K hK
      simp only [depsH, List.getD_cons_zero, List.getD_cons_succ, Is, and_true] at hD
      have h20 := hD.1
      have h21 := hD.2
      clear hD
      simp only [fillL, Act.put, List.setIfInBounds_toArray, List.set_cons_zero, List.set_cons_succ, List.getD_cons_zero, List.getD_cons_succ, Is] at hK ⊢
      rw [h20, h21] at hK ⊢
      refine ite_yes (by rfl) ?_
      go_simp
      refine (all_any [] (0, 0, 0) (-1) 0 _ _ (by simp) (by simp) ⟨by decide, by decide⟩ ⟨none, 0, rfl, by simp⟩).mono ?_
      rw [b4]
      rintro e w3 ⟨rfl, hg⟩
      exact hK _ _ _ rfl hg rfl
    · intro y w2 hG hD K hK
      simp only [depsH, List.getD_cons_zero, List.getD_cons_succ, Is, and_true] at hD
      have h20 := hD.1
      have h22 := hD.2
      clear hD
      simp only [fillL, Act.put, List.setIfInBounds_toArray, List.set_cons_zero, List.set_cons_succ, List.getD_cons_zero, List.getD_cons_succ, Is] at hK ⊢
      rw [h20, h22] at hK ⊢
      refine ite_yes (by rfl) ?_
      go_simp
      exact hK _ _ _ rfl (Grew.refl _) rfl
    · intro y w2 hG hD K hK
      simp only [depsH, List.getD_cons_zero, List.getD_cons_succ, Is, and_true] at hD
      have h20 := hD.1
      have h23 := hD.2
      clear hD
      simp only [fillL, Act.put, List.setIfInBounds_toArray, List.set_cons_zero, List.set_cons_succ, List.getD_cons_zero, List.getD_cons_succ, Is] at hK ⊢
      rw [h20, h23] at hK ⊢
      refine ite_yes (by rfl) ?_
      go_simp
      exact hK _ _ _ rfl (Grew.refl _) rfl
    · intro y w2 hG hD K hK
      simp only [depsH, List.getD_cons_zero, List.getD_cons_succ, Is, and_true] at hD
      have h24 := hD
      clear hD
      simp only [fillL, Act.put, List.setIfInBounds_toArray, List.set_cons_zero, List.set_cons_succ, List.getD_cons_zero, List.getD_cons_succ, Is] at hK ⊢
      rw [h24] at hK ⊢
      refine ite_yes (by rfl) ?_
      go_simp
      exact hK _ _ _ rfl (Grew.refl _) rfl
    · intro y w2 hG hF
      simp only [factsH, Is, and_true, Nat.reduceAdd] at hF
      have h0 := hF.1
      have h1 := hF.2.1
      have h2 := hF.2.2.1
      have h3 := hF.2.2.2.1
      have h4 := hF.2.2.2.2.1
      have h5 := hF.2.2.2.2.2.1
      have h6 := hF.2.2.2.2.2.2.1
      have h7 := hF.2.2.2.2.2.2.2.1
      have h8 := hF.2.2.2.2.2.2.2.2.1
      have h9 := hF.2.2.2.2.2.2.2.2.2.1
      have h10 := hF.2.2.2.2.2.2.2.2.2.2.1
      have h11 := hF.2.2.2.2.2.2.2.2.2.2.2.1
      have h12 := hF.2.2.2.2.2.2.2.2.2.2.2.2.1
      have h13 := hF.2.2.2.2.2.2.2.2.2.2.2.2.2.1
      have h14 := hF.2.2.2.2.2.2.2.2.2.2.2.2.2.2.1
      have h15 := hF.2.2.2.2.2.2.2.2.2.2.2.2.2.2.2.1
      have h16 := hF.2.2.2.2.2.2.2.2.2.2.2.2.2.2.2.2.1
      have h17 := hF.2.2.2.2.2.2.2.2.2.2.2.2.2.2.2.2.2.1
      have h18 := hF.2.2.2.2.2.2.2.2.2.2.2.2.2.2.2.2.2.2.1
      have h19 := hF.2.2.2.2.2.2.2.2.2.2.2.2.2.2.2.2.2.2.2.1
      have h20 := hF.2.2.2.2.2.2.2.2.2.2.2.2.2.2.2.2.2.2.2.2.1
      have h21 := hF.2.2.2.2.2.2.2.2.2.2.2.2.2.2.2.2.2.2.2.2.2.1
      have h22 := hF.2.2.2.2.2.2.2.2.2.2.2.2.2.2.2.2.2.2.2.2.2.2.1
      have h23 := hF.2.2.2.2.2.2.2.2.2.2.2.2.2.2.2.2.2.2.2.2.2.2.2.1
      have h24 := hF.2.2.2.2.2.2.2.2.2.2.2.2.2.2.2.2.2.2.2.2.2.2.2.2.1
      have h25 := hF.2.2.2.2.2.2.2.2.2.2.2.2.2.2.2.2.2.2.2.2.2.2.2.2.2
      clear hF
      simp only [fillL, Act.put, List.setIfInBounds_toArray, List.set_cons_zero, List.set_cons_succ, List.getD_cons_zero, List.getD_cons_succ, Is]
      rw [h0, h1, h3, h4, h5, h6, h7, h8, h9, h10, h12, h13, h14, h15, h16, h17, h18, h19, h20, h21, h22, h23, h24, h25]
      clear h0 h1 h3 h4 h5 h6 h7 h8 h9 h10 h12 h13 h14 h15 h16 h17 h18 h19 h20 h21 h22 h23 h24 h25
      go_wp2
      go_ret
      exact ⟨rfl, ((Grew.refl w).alloc _).trans (G.trans hG)⟩

end Go.Proofs.Ytkabfefphdgppaa
