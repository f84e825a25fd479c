/-
  Texts of the proof, part 6 of 6.
-/
import Derived.Test.YtnelhbkneokpiaaPE
import Derived.Test.YtnelhbkneokpiaaPC
import Derived.Deep.CutBlock
import Derived.Deep.DeepCutAuto
import Derived.Test.YtnelhbkneokpiaaPB
import Derived.Deep.QuietTactic
import Derived.BigQuiet
import Derived.Test.YtnelhbkneokpiaaPD

/-
  Keys: the examples of the chapter hold. Conditions: none.
-/
namespace Go.Proofs.Ytnelhbkneokpiaa
open Go Go.ChangeShapes Go.WideShapes Go.ChangeAt Go.RowKit Go.Joins Go.Deep
set_option linter.unusedVariables false
set_option linter.unusedSimpArgs false

theorem lenoks (l : List ByteArray) (h : (l.all fun s => decide (s.size ≤ 9223372036854775807)) = true) : ∀ s ∈ l, lenok s.size := by
  intro s hs
  simpa [lenok] using List.all_eq_true.1 h s hs
theorem w07_k0 : keyE ⟨#[97]⟩ = 0 := by decide +kernel
theorem w07_k3 : keyE ⟨#[]⟩ = 0 := by decide +kernel
theorem w07_k7 : keyE ⟨#[97, 0]⟩ = 70 := by decide +kernel
theorem w07_l11 : ltS ⟨#[97]⟩ ⟨#[97, 98]⟩ = true := by decide +kernel
theorem w07_l15 : ltS ⟨#[97, 98]⟩ ⟨#[98]⟩ = true := by decide +kernel
theorem w07_l19 : ltS ⟨#[122]⟩ ⟨#[195, 169]⟩ = true := by decide +kernel
theorem w07_l23 : ltS ⟨#[97]⟩ ⟨#[97]⟩ = false := by decide +kernel
theorem w07_o2 : (decide ((ordK [⟨#[98]⟩, ⟨#[97]⟩, ⟨#[]⟩, ⟨#[97, 98]⟩]).1 = [2, 1, 3, 0]) && decide ((ordK [⟨#[98]⟩, ⟨#[97]⟩, ⟨#[]⟩, ⟨#[97, 98]⟩]).2 = 0)) = true := by decide +kernel
theorem w07_o6 : (decide ((ordK [⟨#[97]⟩, ⟨#[98]⟩, ⟨#[97]⟩]).1 = []) && decide ((ordK [⟨#[97]⟩, ⟨#[98]⟩, ⟨#[97]⟩]).2 = 71)) = true := by decide +kernel
theorem w07_o10 : (decide ((ordK []).1 = []) && decide ((ordK []).2 = 0)) = true := by decide +kernel
theorem w07_f1 : (decide ((findK [⟨#[97]⟩, ⟨#[99]⟩, ⟨#[101]⟩] ⟨#[99]⟩).1 = 1) && decide ((findK [⟨#[97]⟩, ⟨#[99]⟩, ⟨#[101]⟩] ⟨#[99]⟩).2 = true)) = true := by decide +kernel
theorem w07_f5 : (decide ((findK [⟨#[97]⟩, ⟨#[99]⟩, ⟨#[101]⟩] ⟨#[100]⟩).1 = 0) && decide ((findK [⟨#[97]⟩, ⟨#[99]⟩, ⟨#[101]⟩] ⟨#[100]⟩).2 = false)) = true := by decide +kernel
theorem w07_f10 : (decide ((findK [⟨#[99]⟩, ⟨#[97]⟩, ⟨#[98]⟩] ⟨#[99]⟩).1 = 0) && decide ((findK [⟨#[99]⟩, ⟨#[97]⟩, ⟨#[98]⟩] ⟨#[99]⟩).2 = false)) = true := by decide +kernel
theorem w07_f11 : (decide ((findK [⟨#[99]⟩, ⟨#[97]⟩, ⟨#[98]⟩] ⟨#[98]⟩).1 = 2) && decide ((findK [⟨#[99]⟩, ⟨#[97]⟩, ⟨#[98]⟩] ⟨#[98]⟩).2 = true)) = true := by decide +kernel
theorem w07_f12 : (decide ((findK [⟨#[99]⟩, ⟨#[97]⟩, ⟨#[98]⟩] ⟨#[97]⟩).1 = 0) && decide ((findK [⟨#[99]⟩, ⟨#[97]⟩, ⟨#[98]⟩] ⟨#[97]⟩).2 = false)) = true := by decide +kernel
theorem w07_c8 : checkE (.mk 10 0 0 ⟨#[]⟩ [] [(.mk 17 0 0 ⟨#[]⟩ [⟨#[98]⟩, ⟨#[97]⟩] [(.mk 3 5 0 ⟨#[]⟩ [] []), (.mk 17 0 0 ⟨#[]⟩ [⟨#[100]⟩, ⟨#[99]⟩] [(.mk 3 1 0 ⟨#[]⟩ [] []), (.mk 3 2 0 ⟨#[]⟩ [] [])])])]) = 0 := by decide +kernel
theorem w07_c9 : checkE (.mk 17 0 0 ⟨#[]⟩ [⟨#[97]⟩, ⟨#[97]⟩] [(.mk 3 5 0 ⟨#[]⟩ [] []), (.mk 3 5 0 ⟨#[]⟩ [] [])]) = 71 := by decide +kernel
theorem w07_want : sortT (.mk 10 0 0 ⟨#[]⟩ [] [(.mk 17 0 0 ⟨#[]⟩ [⟨#[98]⟩, ⟨#[97]⟩] [(.mk 3 5 0 ⟨#[]⟩ [] []), (.mk 17 0 0 ⟨#[]⟩ [⟨#[100]⟩, ⟨#[99]⟩] [(.mk 3 1 0 ⟨#[]⟩ [] []), (.mk 3 2 0 ⟨#[]⟩ [] [])])])]) = (.mk 10 0 0 ⟨#[]⟩ [] [(.mk 17 0 0 ⟨#[]⟩ [⟨#[97]⟩, ⟨#[98]⟩] [(.mk 17 0 0 ⟨#[]⟩ [⟨#[99]⟩, ⟨#[100]⟩] [(.mk 3 2 0 ⟨#[]⟩ [] []), (.mk 3 1 0 ⟨#[]⟩ [] [])]), (.mk 3 5 0 ⟨#[]⟩ [] [])])]) := by kernel_rfl
set_option maxRecDepth 100000 in
set_option maxHeartbeats 4000000 in
theorem works07_any (w : World) : Calls Try.prog 20 #[] w fun r w' => r = .returned (.bool true) ∧ Grew w w' := by
  go_enter Try.func20, Try.ntmps20
  have HG := Lib.hid (Grew.refl w)
  go_wp2_with fail
  have hh := kcheck_any ⟨#[97]⟩ w
  rw [w07_k0] at hh
  refine hh.mono ?_
  clear hh
  rintro r w' ⟨rfl, rfl⟩
  go_wp2_with fail
  have hh := kcheck_any ⟨#[]⟩ w
  rw [w07_k3] at hh
  refine hh.mono ?_
  clear hh
  rintro r w' ⟨rfl, rfl⟩
  go_wp2_with fail
  have hh := kcheck_any ⟨#[97, 0]⟩ w
  rw [w07_k7] at hh
  refine hh.mono ?_
  clear hh
  rintro r w' ⟨rfl, rfl⟩
  go_wp2_with fail
  have hh := kless_any ⟨#[97]⟩ ⟨#[97, 98]⟩ w
  rw [w07_l11] at hh
  refine hh.mono ?_
  clear hh
  rintro r w' ⟨rfl, rfl⟩
  go_wp2_with fail
  have hh := kless_any ⟨#[97, 98]⟩ ⟨#[98]⟩ w
  rw [w07_l15] at hh
  refine hh.mono ?_
  clear hh
  rintro r w' ⟨rfl, rfl⟩
  go_wp2_with fail
  have hh := kless_any ⟨#[122]⟩ ⟨#[195, 169]⟩ w
  rw [w07_l19] at hh
  refine hh.mono ?_
  clear hh
  rintro r w' ⟨rfl, rfl⟩
  go_wp2_with fail
  have hh := kless_any ⟨#[97]⟩ ⟨#[97]⟩ w
  rw [w07_l23] at hh
  refine hh.mono ?_
  clear hh
  rintro r w' ⟨rfl, rfl⟩
  go_wp2_with fail
  obtain ⟨g1, hs1⟩ : ∃ g, w.heap.size = g := ⟨_, rfl⟩
  have sa : Ss [⟨#[98]⟩, ⟨#[97]⟩, ⟨#[]⟩, ⟨#[97, 98]⟩] (.slice (some ⟨w.heap.size, 0, none⟩) 4 4) (w.alloc (.cells #[.string ⟨#[98]⟩, .string ⟨#[97]⟩, .string ⟨#[]⟩, .string ⟨#[97, 98]⟩] 9)) := built_strs w [⟨#[98]⟩, ⟨#[97]⟩, ⟨#[]⟩, ⟨#[97, 98]⟩] (lenoks _ (by decide)) (by decide)
  have hg1 := (Grew.refl w).alloc (.cells #[.string ⟨#[98]⟩, .string ⟨#[97]⟩, .string ⟨#[]⟩, .string ⟨#[97, 98]⟩] 9)
  have hz1 : (w.alloc (.cells #[.string ⟨#[98]⟩, .string ⟨#[97]⟩, .string ⟨#[]⟩, .string ⟨#[97, 98]⟩] 9)).heap.size = w.heap.size + 1 := World.size_alloc _ _
  generalize (w.alloc (.cells #[.string ⟨#[98]⟩, .string ⟨#[97]⟩, .string ⟨#[]⟩, .string ⟨#[97, 98]⟩] 9)) = w1 at *
  rw [hs1] at sa hz1
  try rw [hs1]
  replace HG := Lib.hid (HG.out.trans hg1)
  clear hg1
  have hs2 := hz1
  have ia : Ri [2, 1, 3, 0] (.slice (some ⟨w1.heap.size, 0, none⟩) 4 4) (w1.alloc (.cells #[.int .i64 2, .int .i64 1, .int .i64 3, .int .i64 0] 3)) := built_ints w1 [2, 1, 3, 0] (by decide)
  have hg2 := (Grew.refl w1).alloc (.cells #[.int .i64 2, .int .i64 1, .int .i64 3, .int .i64 0] 3)
  have hz2 : (w1.alloc (.cells #[.int .i64 2, .int .i64 1, .int .i64 3, .int .i64 0] 3)).heap.size = w1.heap.size + 1 := World.size_alloc _ _
  generalize (w1.alloc (.cells #[.int .i64 2, .int .i64 1, .int .i64 3, .int .i64 0] 3)) = w2 at *
  rw [hs2] at ia hz2
  try rw [hs2]
  replace sa := Ss.st _ _ _ _ hg2 sa
  replace HG := Lib.hid (HG.out.trans hg2)
  clear hg2
  have hh := ordered_any [⟨#[98]⟩, ⟨#[97]⟩, ⟨#[]⟩, ⟨#[97, 98]⟩] 0 [2, 1, 3, 0] (by decide) _ _ w2 sa ia
  rw [w07_o2] at hh
  refine hh.mono ?_
  clear hh
  rintro r v1 ⟨rfl, hgc⟩
  replace sa := Ss.st _ _ _ _ hgc sa
  replace ia := Ri.st _ _ _ _ hgc ia
  replace HG := Lib.hid (HG.out.trans hgc)
  clear hgc
  go_wp2_with fail
  clear sa ia
  obtain ⟨g3, hs3⟩ : ∃ g, v1.heap.size = g := ⟨_, rfl⟩
  have sb : Ss [⟨#[97]⟩, ⟨#[98]⟩, ⟨#[97]⟩] (.slice (some ⟨v1.heap.size, 0, none⟩) 3 3) (v1.alloc (.cells #[.string ⟨#[97]⟩, .string ⟨#[98]⟩, .string ⟨#[97]⟩] 9)) := built_strs v1 [⟨#[97]⟩, ⟨#[98]⟩, ⟨#[97]⟩] (lenoks _ (by decide)) (by decide)
  have hg3 := (Grew.refl v1).alloc (.cells #[.string ⟨#[97]⟩, .string ⟨#[98]⟩, .string ⟨#[97]⟩] 9)
  have hz3 : (v1.alloc (.cells #[.string ⟨#[97]⟩, .string ⟨#[98]⟩, .string ⟨#[97]⟩] 9)).heap.size = v1.heap.size + 1 := World.size_alloc _ _
  generalize (v1.alloc (.cells #[.string ⟨#[97]⟩, .string ⟨#[98]⟩, .string ⟨#[97]⟩] 9)) = w3 at *
  rw [hs3] at sb hz3
  try rw [hs3]
  replace HG := Lib.hid (HG.out.trans hg3)
  clear hg3
  have hh := ordered_any [⟨#[97]⟩, ⟨#[98]⟩, ⟨#[97]⟩] 71 [] (by decide) _ _ w3 sb (RowI.nil _)
  rw [w07_o6] at hh
  refine hh.mono ?_
  clear hh
  rintro r v2 ⟨rfl, hgc⟩
  replace sb := Ss.st _ _ _ _ hgc sb
  replace HG := Lib.hid (HG.out.trans hgc)
  clear hgc
  go_wp2_with fail
  clear sb
  have hh := ordered_any [] 0 [] (by decide) _ _ v2 (StrsAt.nil _) (RowI.nil _)
  rw [w07_o10] at hh
  refine hh.mono ?_
  clear hh
  rintro r v3 ⟨rfl, hgc⟩
  replace HG := Lib.hid (HG.out.trans hgc)
  clear hgc
  go_wp2_with fail
  obtain ⟨g4, hs4⟩ : ∃ g, v3.heap.size = g := ⟨_, rfl⟩
  have su : Ss [⟨#[97]⟩, ⟨#[99]⟩, ⟨#[101]⟩] (.slice (some ⟨v3.heap.size, 0, none⟩) 3 3) (v3.alloc (.cells #[.string ⟨#[97]⟩, .string ⟨#[99]⟩, .string ⟨#[101]⟩] 9)) := built_strs v3 [⟨#[97]⟩, ⟨#[99]⟩, ⟨#[101]⟩] (lenoks _ (by decide)) (by decide)
  have hg4 := (Grew.refl v3).alloc (.cells #[.string ⟨#[97]⟩, .string ⟨#[99]⟩, .string ⟨#[101]⟩] 9)
  have hz4 : (v3.alloc (.cells #[.string ⟨#[97]⟩, .string ⟨#[99]⟩, .string ⟨#[101]⟩] 9)).heap.size = v3.heap.size + 1 := World.size_alloc _ _
  generalize (v3.alloc (.cells #[.string ⟨#[97]⟩, .string ⟨#[99]⟩, .string ⟨#[101]⟩] 9)) = w4 at *
  rw [hs4] at su hz4
  try rw [hs4]
  replace HG := Lib.hid (HG.out.trans hg4)
  clear hg4
  have hs5 := hz4
  have so : Ss [⟨#[99]⟩, ⟨#[97]⟩, ⟨#[98]⟩] (.slice (some ⟨w4.heap.size, 0, none⟩) 3 3) (w4.alloc (.cells #[.string ⟨#[99]⟩, .string ⟨#[97]⟩, .string ⟨#[98]⟩] 9)) := built_strs w4 [⟨#[99]⟩, ⟨#[97]⟩, ⟨#[98]⟩] (lenoks _ (by decide)) (by decide)
  have hg5 := (Grew.refl w4).alloc (.cells #[.string ⟨#[99]⟩, .string ⟨#[97]⟩, .string ⟨#[98]⟩] 9)
  have hz5 : (w4.alloc (.cells #[.string ⟨#[99]⟩, .string ⟨#[97]⟩, .string ⟨#[98]⟩] 9)).heap.size = w4.heap.size + 1 := World.size_alloc _ _
  generalize (w4.alloc (.cells #[.string ⟨#[99]⟩, .string ⟨#[97]⟩, .string ⟨#[98]⟩] 9)) = w5 at *
  rw [hs5] at so hz5
  try rw [hs5]
  replace su := Ss.st _ _ _ _ hg5 su
  replace HG := Lib.hid (HG.out.trans hg5)
  clear hg5
  have hh := found_any [⟨#[97]⟩, ⟨#[99]⟩, ⟨#[101]⟩] ⟨#[99]⟩ 1 true _ w5 su
  rw [w07_f1] at hh
  refine hh.mono ?_
  clear hh
  rintro r v4 ⟨rfl, hgc⟩
  replace su := Ss.st _ _ _ _ hgc su
  replace so := Ss.st _ _ _ _ hgc so
  replace HG := Lib.hid (HG.out.trans hgc)
  clear hgc
  go_wp2_with fail
  have hh := found_any [⟨#[97]⟩, ⟨#[99]⟩, ⟨#[101]⟩] ⟨#[100]⟩ 0 false _ v4 su
  rw [w07_f5] at hh
  refine hh.mono ?_
  clear hh
  rintro r v5 ⟨rfl, hgc⟩
  replace su := Ss.st _ _ _ _ hgc su
  replace so := Ss.st _ _ _ _ hgc so
  replace HG := Lib.hid (HG.out.trans hgc)
  clear hgc
  go_wp2_with fail
  have hh := found_any [⟨#[99]⟩, ⟨#[97]⟩, ⟨#[98]⟩] ⟨#[99]⟩ 0 false _ v5 so
  rw [w07_f10] at hh
  refine hh.mono ?_
  clear hh
  rintro r v6 ⟨rfl, hgc⟩
  replace su := Ss.st _ _ _ _ hgc su
  replace so := Ss.st _ _ _ _ hgc so
  replace HG := Lib.hid (HG.out.trans hgc)
  clear hgc
  go_wp2_with fail
  have hh := found_any [⟨#[99]⟩, ⟨#[97]⟩, ⟨#[98]⟩] ⟨#[98]⟩ 2 true _ v6 so
  rw [w07_f11] at hh
  refine hh.mono ?_
  clear hh
  rintro r v7 ⟨rfl, hgc⟩
  replace su := Ss.st _ _ _ _ hgc su
  replace so := Ss.st _ _ _ _ hgc so
  replace HG := Lib.hid (HG.out.trans hgc)
  clear hgc
  go_wp2_with fail
  have hh := found_any [⟨#[99]⟩, ⟨#[97]⟩, ⟨#[98]⟩] ⟨#[97]⟩ 0 false _ v7 so
  rw [w07_f12] at hh
  refine hh.mono ?_
  clear hh
  rintro r v8 ⟨rfl, hgc⟩
  replace su := Ss.st _ _ _ _ hgc su
  replace so := Ss.st _ _ _ _ hgc so
  replace HG := Lib.hid (HG.out.trans hgc)
  clear hgc
  go_wp2_with fail
  clear su so
  obtain ⟨g6, hs6⟩ : ∃ g, v8.heap.size = g := ⟨_, rfl⟩
  have s1 : Ss [⟨#[98]⟩, ⟨#[97]⟩] (.slice (some ⟨v8.heap.size, 0, none⟩) 2 2) (v8.alloc (.cells #[.string ⟨#[98]⟩, .string ⟨#[97]⟩] 9)) := built_strs v8 [⟨#[98]⟩, ⟨#[97]⟩] (lenoks _ (by decide)) (by decide)
  have hg6 := (Grew.refl v8).alloc (.cells #[.string ⟨#[98]⟩, .string ⟨#[97]⟩] 9)
  have hz6 : (v8.alloc (.cells #[.string ⟨#[98]⟩, .string ⟨#[97]⟩] 9)).heap.size = v8.heap.size + 1 := World.size_alloc _ _
  generalize (v8.alloc (.cells #[.string ⟨#[98]⟩, .string ⟨#[97]⟩] 9)) = w6 at *
  rw [hs6] at s1 hz6
  try rw [hs6]
  replace HG := Lib.hid (HG.out.trans hg6)
  clear hg6
  refine (num_any 5 w6).mono ?_
  rintro r v9 ⟨rfl, hgc⟩
  replace s1 := Ss.st _ _ _ _ hgc s1
  replace HG := Lib.hid (HG.out.trans hgc)
  clear hgc
  go_wp2_with fail
  obtain ⟨g7, hs7⟩ : ∃ g, v9.heap.size = g := ⟨_, rfl⟩
  have s2 : Ss [⟨#[100]⟩, ⟨#[99]⟩] (.slice (some ⟨v9.heap.size, 0, none⟩) 2 2) (v9.alloc (.cells #[.string ⟨#[100]⟩, .string ⟨#[99]⟩] 9)) := built_strs v9 [⟨#[100]⟩, ⟨#[99]⟩] (lenoks _ (by decide)) (by decide)
  have hg7 := (Grew.refl v9).alloc (.cells #[.string ⟨#[100]⟩, .string ⟨#[99]⟩] 9)
  have hz7 : (v9.alloc (.cells #[.string ⟨#[100]⟩, .string ⟨#[99]⟩] 9)).heap.size = v9.heap.size + 1 := World.size_alloc _ _
  generalize (v9.alloc (.cells #[.string ⟨#[100]⟩, .string ⟨#[99]⟩] 9)) = w7 at *
  rw [hs7] at s2 hz7
  try rw [hs7]
  replace s1 := Ss.st _ _ _ _ hg7 s1
  replace HG := Lib.hid (HG.out.trans hg7)
  clear hg7
  refine (num_any 1 w7).mono ?_
  rintro r v10 ⟨rfl, hgc⟩
  replace s1 := Ss.st _ _ _ _ hgc s1
  replace s2 := Ss.st _ _ _ _ hgc s2
  replace HG := Lib.hid (HG.out.trans hgc)
  clear hgc
  go_wp2_with fail
  refine (num_any 2 v10).mono ?_
  rintro r v11 ⟨rfl, hgc⟩
  replace s1 := Ss.st _ _ _ _ hgc s1
  replace s2 := Ss.st _ _ _ _ hgc s2
  replace HG := Lib.hid (HG.out.trans hgc)
  clear hgc
  go_wp2_with fail
  obtain ⟨g8, hs8⟩ : ∃ g, v11.heap.size = g := ⟨_, rfl⟩
  have r1 : Rn [(.mk 3 1 0 ⟨#[]⟩ [] []), (.mk 3 2 0 ⟨#[]⟩ [] [])] (.slice (some ⟨v11.heap.size, 0, none⟩) 2 2) (v11.alloc (.cells #[.int .i64 3, .int .i64 1, .int .u64 0, .string ⟨#[]⟩, .slice none 0 0, .slice none 0 0, .int .i64 3, .int .i64 2, .int .u64 0, .string ⟨#[]⟩, .slice none 0 0, .slice none 0 0] 41)) := built_nodes v11 [(.mk 3 1 0 ⟨#[]⟩ [] []), (.mk 3 2 0 ⟨#[]⟩ [] [])] [.agg #[.int .i64 3, .int .i64 1, .int .u64 0, .string ⟨#[]⟩, .slice none 0 0, .slice none 0 0], .agg #[.int .i64 3, .int .i64 2, .int .u64 0, .string ⟨#[]⟩, .slice none 0 0, .slice none 0 0]] (by intro x hx; simp only [List.mem_cons, List.not_mem_nil, or_false] at hx; rcases hx with rfl | rfl <;> exact ⟨_, _, _, _, _, _, _, _, _, _, rfl⟩) ⟨_, _, rfl, (num_nd 1 (by unfold i64ok; decide) _), ⟨_, _, rfl, (num_nd 2 (by unfold i64ok; decide) _), rfl⟩⟩ (by simp)
  have hg8 := (Grew.refl v11).alloc (.cells #[.int .i64 3, .int .i64 1, .int .u64 0, .string ⟨#[]⟩, .slice none 0 0, .slice none 0 0, .int .i64 3, .int .i64 2, .int .u64 0, .string ⟨#[]⟩, .slice none 0 0, .slice none 0 0] 41)
  have hz8 : (v11.alloc (.cells #[.int .i64 3, .int .i64 1, .int .u64 0, .string ⟨#[]⟩, .slice none 0 0, .slice none 0 0, .int .i64 3, .int .i64 2, .int .u64 0, .string ⟨#[]⟩, .slice none 0 0, .slice none 0 0] 41)).heap.size = v11.heap.size + 1 := World.size_alloc _ _
  generalize (v11.alloc (.cells #[.int .i64 3, .int .i64 1, .int .u64 0, .string ⟨#[]⟩, .slice none 0 0, .slice none 0 0, .int .i64 3, .int .i64 2, .int .u64 0, .string ⟨#[]⟩, .slice none 0 0, .slice none 0 0] 41)) = w8 at *
  rw [hs8] at r1 hz8
  try rw [hs8]
  replace s1 := Ss.st _ _ _ _ hg8 s1
  replace s2 := Ss.st _ _ _ _ hg8 s2
  replace HG := Lib.hid (HG.out.trans hg8)
  clear hg8
  have n1 := table_nd s2 r1
  refine (table_any _ _ _ _ _ _ w8).mono ?_
  rintro r v12 ⟨rfl, hgc⟩
  replace s1 := Ss.st _ _ _ _ hgc s1
  replace s2 := Ss.st _ _ _ _ hgc s2
  replace r1 := Rn.st _ _ _ _ hgc r1
  replace n1 := Nd.st _ _ _ _ hgc n1
  replace HG := Lib.hid (HG.out.trans hgc)
  clear hgc
  go_wp2_with fail
  obtain ⟨g9, hs9⟩ : ∃ g, v12.heap.size = g := ⟨_, rfl⟩
  have r2 : Rn [(.mk 3 5 0 ⟨#[]⟩ [] []), (.mk 17 0 0 ⟨#[]⟩ [⟨#[100]⟩, ⟨#[99]⟩] [(.mk 3 1 0 ⟨#[]⟩ [] []), (.mk 3 2 0 ⟨#[]⟩ [] [])])] (.slice (some ⟨v12.heap.size, 0, none⟩) 2 2) (v12.alloc (.cells #[.int .i64 3, .int .i64 5, .int .u64 0, .string ⟨#[]⟩, .slice none 0 0, .slice none 0 0, .int .i64 17, .int .i64 0, .int .u64 0, .string ⟨#[]⟩, .slice (some ⟨g7, 0, none⟩) 2 2, .slice (some ⟨g8, 0, none⟩) 2 2] 41)) := built_nodes v12 [(.mk 3 5 0 ⟨#[]⟩ [] []), (.mk 17 0 0 ⟨#[]⟩ [⟨#[100]⟩, ⟨#[99]⟩] [(.mk 3 1 0 ⟨#[]⟩ [] []), (.mk 3 2 0 ⟨#[]⟩ [] [])])] [.agg #[.int .i64 3, .int .i64 5, .int .u64 0, .string ⟨#[]⟩, .slice none 0 0, .slice none 0 0], .agg #[.int .i64 17, .int .i64 0, .int .u64 0, .string ⟨#[]⟩, .slice (some ⟨g7, 0, none⟩) 2 2, .slice (some ⟨g8, 0, none⟩) 2 2]] (by intro x hx; simp only [List.mem_cons, List.not_mem_nil, or_false] at hx; rcases hx with rfl | rfl <;> exact ⟨_, _, _, _, _, _, _, _, _, _, rfl⟩) ⟨_, _, rfl, (num_nd 5 (by unfold i64ok; decide) _), ⟨_, _, rfl, (Nd.st _ _ _ _ ((Grew.refl _)) n1), rfl⟩⟩ (by simp)
  have hg9 := (Grew.refl v12).alloc (.cells #[.int .i64 3, .int .i64 5, .int .u64 0, .string ⟨#[]⟩, .slice none 0 0, .slice none 0 0, .int .i64 17, .int .i64 0, .int .u64 0, .string ⟨#[]⟩, .slice (some ⟨g7, 0, none⟩) 2 2, .slice (some ⟨g8, 0, none⟩) 2 2] 41)
  have hz9 : (v12.alloc (.cells #[.int .i64 3, .int .i64 5, .int .u64 0, .string ⟨#[]⟩, .slice none 0 0, .slice none 0 0, .int .i64 17, .int .i64 0, .int .u64 0, .string ⟨#[]⟩, .slice (some ⟨g7, 0, none⟩) 2 2, .slice (some ⟨g8, 0, none⟩) 2 2] 41)).heap.size = v12.heap.size + 1 := World.size_alloc _ _
  generalize (v12.alloc (.cells #[.int .i64 3, .int .i64 5, .int .u64 0, .string ⟨#[]⟩, .slice none 0 0, .slice none 0 0, .int .i64 17, .int .i64 0, .int .u64 0, .string ⟨#[]⟩, .slice (some ⟨g7, 0, none⟩) 2 2, .slice (some ⟨g8, 0, none⟩) 2 2] 41)) = w9 at *
  rw [hs9] at r2 hz9
  try rw [hs9]
  replace s1 := Ss.st _ _ _ _ hg9 s1
  replace s2 := Ss.st _ _ _ _ hg9 s2
  replace r1 := Rn.st _ _ _ _ hg9 r1
  replace n1 := Nd.st _ _ _ _ hg9 n1
  replace HG := Lib.hid (HG.out.trans hg9)
  clear hg9
  have n2 := table_nd s1 r2
  refine (table_any _ _ _ _ _ _ w9).mono ?_
  rintro r v13 ⟨rfl, hgc⟩
  replace s1 := Ss.st _ _ _ _ hgc s1
  replace s2 := Ss.st _ _ _ _ hgc s2
  replace r1 := Rn.st _ _ _ _ hgc r1
  replace n1 := Nd.st _ _ _ _ hgc n1
  replace r2 := Rn.st _ _ _ _ hgc r2
  replace n2 := Nd.st _ _ _ _ hgc n2
  replace HG := Lib.hid (HG.out.trans hgc)
  clear hgc
  go_wp2_with fail
  obtain ⟨g10, hs10⟩ : ∃ g, v13.heap.size = g := ⟨_, rfl⟩
  have r3 : Rn [(.mk 17 0 0 ⟨#[]⟩ [⟨#[98]⟩, ⟨#[97]⟩] [(.mk 3 5 0 ⟨#[]⟩ [] []), (.mk 17 0 0 ⟨#[]⟩ [⟨#[100]⟩, ⟨#[99]⟩] [(.mk 3 1 0 ⟨#[]⟩ [] []), (.mk 3 2 0 ⟨#[]⟩ [] [])])])] (.slice (some ⟨v13.heap.size, 0, none⟩) 1 1) (v13.alloc (.cells #[.int .i64 17, .int .i64 0, .int .u64 0, .string ⟨#[]⟩, .slice (some ⟨g6, 0, none⟩) 2 2, .slice (some ⟨g9, 0, none⟩) 2 2] 41)) := built_nodes v13 [(.mk 17 0 0 ⟨#[]⟩ [⟨#[98]⟩, ⟨#[97]⟩] [(.mk 3 5 0 ⟨#[]⟩ [] []), (.mk 17 0 0 ⟨#[]⟩ [⟨#[100]⟩, ⟨#[99]⟩] [(.mk 3 1 0 ⟨#[]⟩ [] []), (.mk 3 2 0 ⟨#[]⟩ [] [])])])] [.agg #[.int .i64 17, .int .i64 0, .int .u64 0, .string ⟨#[]⟩, .slice (some ⟨g6, 0, none⟩) 2 2, .slice (some ⟨g9, 0, none⟩) 2 2]] (by intro x hx; simp only [List.mem_cons, List.not_mem_nil, or_false] at hx; subst hx; exact ⟨_, _, _, _, _, _, _, _, _, _, rfl⟩) ⟨_, _, rfl, n2, rfl⟩ (by simp)
  have hg10 := (Grew.refl v13).alloc (.cells #[.int .i64 17, .int .i64 0, .int .u64 0, .string ⟨#[]⟩, .slice (some ⟨g6, 0, none⟩) 2 2, .slice (some ⟨g9, 0, none⟩) 2 2] 41)
  have hz10 : (v13.alloc (.cells #[.int .i64 17, .int .i64 0, .int .u64 0, .string ⟨#[]⟩, .slice (some ⟨g6, 0, none⟩) 2 2, .slice (some ⟨g9, 0, none⟩) 2 2] 41)).heap.size = v13.heap.size + 1 := World.size_alloc _ _
  generalize (v13.alloc (.cells #[.int .i64 17, .int .i64 0, .int .u64 0, .string ⟨#[]⟩, .slice (some ⟨g6, 0, none⟩) 2 2, .slice (some ⟨g9, 0, none⟩) 2 2] 41)) = w10 at *
  rw [hs10] at r3 hz10
  try rw [hs10]
  replace s1 := Ss.st _ _ _ _ hg10 s1
  replace s2 := Ss.st _ _ _ _ hg10 s2
  replace r1 := Rn.st _ _ _ _ hg10 r1
  replace n1 := Nd.st _ _ _ _ hg10 n1
  replace r2 := Rn.st _ _ _ _ hg10 r2
  replace n2 := Nd.st _ _ _ _ hg10 n2
  replace HG := Lib.hid (HG.out.trans hg10)
  clear hg10
  clear s1 s2 r1 r2 n1 n2
  have n3 := vec_nd r3
  refine (sorted_any (.mk 10 0 0 ⟨#[]⟩ [] [(.mk 17 0 0 ⟨#[]⟩ [⟨#[98]⟩, ⟨#[97]⟩] [(.mk 3 5 0 ⟨#[]⟩ [] []), (.mk 17 0 0 ⟨#[]⟩ [⟨#[100]⟩, ⟨#[99]⟩] [(.mk 3 1 0 ⟨#[]⟩ [] []), (.mk 3 2 0 ⟨#[]⟩ [] [])])])]) _ w10 n3 (by decide)).mono ?_
  intro r v14 hs
  obtain ⟨hgc, sv, rfl, hsv⟩ := sorted_ndZ hs w07_c8
  clear hs
  clear r3 n3
  replace HG := Lib.hid (HG.out.trans hgc)
  clear hgc
  have hns := hsv.nd
  clear hsv
  obtain ⟨zk, zn, zu, zs, za4, zn4, zc4, za5, zn5, zc5, rfl⟩ := NodeAt.node6 hns
  go_wp2_with fail
  obtain ⟨g11, hs11⟩ : ∃ g, v14.heap.size = g := ⟨_, rfl⟩
  have hva := heap_alloc_new v14 (.cells #[.int .i64 zk, .int .i64 zn, .int .u64 zu, .string zs, .slice za4 zn4 zc4, .slice za5 zn5 zc5] 41)
  have hg11 := (Grew.refl v14).alloc (.cells #[.int .i64 zk, .int .i64 zn, .int .u64 zu, .string zs, .slice za4 zn4 zc4, .slice za5 zn5 zc5] 41)
  have hz11 : (v14.alloc (.cells #[.int .i64 zk, .int .i64 zn, .int .u64 zu, .string zs, .slice za4 zn4 zc4, .slice za5 zn5 zc5] 41)).heap.size = v14.heap.size + 1 := World.size_alloc _ _
  generalize (v14.alloc (.cells #[.int .i64 zk, .int .i64 zn, .int .u64 zu, .string zs, .slice za4 zn4 zc4, .slice za5 zn5 zc5] 41)) = w11 at *
  rw [hs11] at hva hz11
  try rw [hs11]
  replace hns := Nd.st _ _ _ _ hg11 hns
  replace HG := Lib.hid (HG.out.trans hg11)
  clear hg11
  have hs12 := hz11
  have s3 : Ss [⟨#[97]⟩, ⟨#[97]⟩] (.slice (some ⟨w11.heap.size, 0, none⟩) 2 2) (w11.alloc (.cells #[.string ⟨#[97]⟩, .string ⟨#[97]⟩] 9)) := built_strs w11 [⟨#[97]⟩, ⟨#[97]⟩] (lenoks _ (by decide)) (by decide)
  have hg12 := (Grew.refl w11).alloc (.cells #[.string ⟨#[97]⟩, .string ⟨#[97]⟩] 9)
  have hz12 : (w11.alloc (.cells #[.string ⟨#[97]⟩, .string ⟨#[97]⟩] 9)).heap.size = w11.heap.size + 1 := World.size_alloc _ _
  generalize (w11.alloc (.cells #[.string ⟨#[97]⟩, .string ⟨#[97]⟩] 9)) = w12 at *
  rw [hs12] at s3 hz12
  try rw [hs12]
  replace hns := Nd.st _ _ _ _ hg12 hns
  replace hva := hg12.heap hva
  replace HG := Lib.hid (HG.out.trans hg12)
  clear hg12
  refine (num_any 5 w12).mono ?_
  rintro r v15 ⟨rfl, hgc⟩
  replace hns := Nd.st _ _ _ _ hgc hns
  replace hva := hgc.heap hva
  replace s3 := Ss.st _ _ _ _ hgc s3
  replace HG := Lib.hid (HG.out.trans hgc)
  clear hgc
  go_wp2_with fail
  refine (num_any 5 v15).mono ?_
  rintro r v16 ⟨rfl, hgc⟩
  replace hns := Nd.st _ _ _ _ hgc hns
  replace hva := hgc.heap hva
  replace s3 := Ss.st _ _ _ _ hgc s3
  replace HG := Lib.hid (HG.out.trans hgc)
  clear hgc
  go_wp2_with fail
  obtain ⟨g13, hs13⟩ : ∃ g, v16.heap.size = g := ⟨_, rfl⟩
  have r4 : Rn [(.mk 3 5 0 ⟨#[]⟩ [] []), (.mk 3 5 0 ⟨#[]⟩ [] [])] (.slice (some ⟨v16.heap.size, 0, none⟩) 2 2) (v16.alloc (.cells #[.int .i64 3, .int .i64 5, .int .u64 0, .string ⟨#[]⟩, .slice none 0 0, .slice none 0 0, .int .i64 3, .int .i64 5, .int .u64 0, .string ⟨#[]⟩, .slice none 0 0, .slice none 0 0] 41)) := built_nodes v16 [(.mk 3 5 0 ⟨#[]⟩ [] []), (.mk 3 5 0 ⟨#[]⟩ [] [])] [.agg #[.int .i64 3, .int .i64 5, .int .u64 0, .string ⟨#[]⟩, .slice none 0 0, .slice none 0 0], .agg #[.int .i64 3, .int .i64 5, .int .u64 0, .string ⟨#[]⟩, .slice none 0 0, .slice none 0 0]] (by intro x hx; simp only [List.mem_cons, List.not_mem_nil, or_false] at hx; rcases hx with rfl | rfl <;> exact ⟨_, _, _, _, _, _, _, _, _, _, rfl⟩) ⟨_, _, rfl, (num_nd 5 (by unfold i64ok; decide) _), ⟨_, _, rfl, (num_nd 5 (by unfold i64ok; decide) _), rfl⟩⟩ (by simp)
  have hg13 := (Grew.refl v16).alloc (.cells #[.int .i64 3, .int .i64 5, .int .u64 0, .string ⟨#[]⟩, .slice none 0 0, .slice none 0 0, .int .i64 3, .int .i64 5, .int .u64 0, .string ⟨#[]⟩, .slice none 0 0, .slice none 0 0] 41)
  have hz13 : (v16.alloc (.cells #[.int .i64 3, .int .i64 5, .int .u64 0, .string ⟨#[]⟩, .slice none 0 0, .slice none 0 0, .int .i64 3, .int .i64 5, .int .u64 0, .string ⟨#[]⟩, .slice none 0 0, .slice none 0 0] 41)).heap.size = v16.heap.size + 1 := World.size_alloc _ _
  generalize (v16.alloc (.cells #[.int .i64 3, .int .i64 5, .int .u64 0, .string ⟨#[]⟩, .slice none 0 0, .slice none 0 0, .int .i64 3, .int .i64 5, .int .u64 0, .string ⟨#[]⟩, .slice none 0 0, .slice none 0 0] 41)) = w13 at *
  rw [hs13] at r4 hz13
  try rw [hs13]
  replace hns := Nd.st _ _ _ _ hg13 hns
  replace hva := hg13.heap hva
  replace s3 := Ss.st _ _ _ _ hg13 s3
  replace HG := Lib.hid (HG.out.trans hg13)
  clear hg13
  have n4 := table_nd s3 r4
  refine (table_any _ _ _ _ _ _ w13).mono ?_
  rintro r v17 ⟨rfl, hgc⟩
  replace hns := Nd.st _ _ _ _ hgc hns
  replace hva := hgc.heap hva
  replace s3 := Ss.st _ _ _ _ hgc s3
  replace r4 := Rn.st _ _ _ _ hgc r4
  replace n4 := Nd.st _ _ _ _ hgc n4
  replace HG := Lib.hid (HG.out.trans hgc)
  clear hgc
  go_wp2_with fail
  refine (sorted_any (.mk 17 0 0 ⟨#[]⟩ [⟨#[97]⟩, ⟨#[97]⟩] [(.mk 3 5 0 ⟨#[]⟩ [] []), (.mk 3 5 0 ⟨#[]⟩ [] [])]) _ v17 n4 (by decide)).mono ?_
  intro r v18 hs
  obtain ⟨hgc, rfl⟩ : Grew v17 v18 ∧ r = .returned (.tuple #[zeroNode, .int .i64 71]) := by
    rcases hs.2 with ⟨_, e⟩ | ⟨e, _⟩
    · exact ⟨hs.1, by rw [e, w07_c9]⟩
    · rw [w07_c9] at e; cases e
  clear hs
  clear s3 r4 n4
  replace hns := Nd.st _ _ _ _ hgc hns
  replace hva := hgc.heap hva
  replace HG := Lib.hid (HG.out.trans hgc)
  clear hgc
  rw [show zeroNode = .agg #[.int .i64 0, .int .i64 0, .int .u64 0, .string ⟨#[]⟩, .slice none 0 0, .slice none 0 0] from rfl]
  go_wp2_with fail
  obtain ⟨g14, hs14⟩ : ∃ g, v18.heap.size = g := ⟨_, rfl⟩
  have hvz := heap_alloc_new v18 (.cells #[.int .i64 0, .int .i64 0, .int .u64 0, .string ⟨#[]⟩, .slice none 0 0, .slice none 0 0] 41)
  have hg14 := (Grew.refl v18).alloc (.cells #[.int .i64 0, .int .i64 0, .int .u64 0, .string ⟨#[]⟩, .slice none 0 0, .slice none 0 0] 41)
  have hz14 : (v18.alloc (.cells #[.int .i64 0, .int .i64 0, .int .u64 0, .string ⟨#[]⟩, .slice none 0 0, .slice none 0 0] 41)).heap.size = v18.heap.size + 1 := World.size_alloc _ _
  generalize (v18.alloc (.cells #[.int .i64 0, .int .i64 0, .int .u64 0, .string ⟨#[]⟩, .slice none 0 0, .slice none 0 0] 41)) = w14 at *
  rw [hs14] at hvz hz14
  try rw [hs14]
  replace hns := Nd.st _ _ _ _ hg14 hns
  replace hva := hg14.heap hva
  replace HG := Lib.hid (HG.out.trans hg14)
  clear hg14
  have hs15 := hz14
  have s5 : Ss [⟨#[97]⟩, ⟨#[98]⟩] (.slice (some ⟨w14.heap.size, 0, none⟩) 2 2) (w14.alloc (.cells #[.string ⟨#[97]⟩, .string ⟨#[98]⟩] 9)) := built_strs w14 [⟨#[97]⟩, ⟨#[98]⟩] (lenoks _ (by decide)) (by decide)
  have hg15 := (Grew.refl w14).alloc (.cells #[.string ⟨#[97]⟩, .string ⟨#[98]⟩] 9)
  have hz15 : (w14.alloc (.cells #[.string ⟨#[97]⟩, .string ⟨#[98]⟩] 9)).heap.size = w14.heap.size + 1 := World.size_alloc _ _
  generalize (w14.alloc (.cells #[.string ⟨#[97]⟩, .string ⟨#[98]⟩] 9)) = w15 at *
  rw [hs15] at s5 hz15
  try rw [hs15]
  replace hns := Nd.st _ _ _ _ hg15 hns
  replace hva := hg15.heap hva
  replace hvz := hg15.heap hvz
  replace HG := Lib.hid (HG.out.trans hg15)
  clear hg15
  have hs16 := hz15
  have s6 : Ss [⟨#[99]⟩, ⟨#[100]⟩] (.slice (some ⟨w15.heap.size, 0, none⟩) 2 2) (w15.alloc (.cells #[.string ⟨#[99]⟩, .string ⟨#[100]⟩] 9)) := built_strs w15 [⟨#[99]⟩, ⟨#[100]⟩] (lenoks _ (by decide)) (by decide)
  have hg16 := (Grew.refl w15).alloc (.cells #[.string ⟨#[99]⟩, .string ⟨#[100]⟩] 9)
  have hz16 : (w15.alloc (.cells #[.string ⟨#[99]⟩, .string ⟨#[100]⟩] 9)).heap.size = w15.heap.size + 1 := World.size_alloc _ _
  generalize (w15.alloc (.cells #[.string ⟨#[99]⟩, .string ⟨#[100]⟩] 9)) = w16 at *
  rw [hs16] at s6 hz16
  try rw [hs16]
  replace hns := Nd.st _ _ _ _ hg16 hns
  replace hva := hg16.heap hva
  replace hvz := hg16.heap hvz
  replace s5 := Ss.st _ _ _ _ hg16 s5
  replace HG := Lib.hid (HG.out.trans hg16)
  clear hg16
  refine (num_any 2 w16).mono ?_
  rintro r v19 ⟨rfl, hgc⟩
  replace hns := Nd.st _ _ _ _ hgc hns
  replace hva := hgc.heap hva
  replace hvz := hgc.heap hvz
  replace s5 := Ss.st _ _ _ _ hgc s5
  replace s6 := Ss.st _ _ _ _ hgc s6
  replace HG := Lib.hid (HG.out.trans hgc)
  clear hgc
  go_wp2_with fail
  refine (num_any 1 v19).mono ?_
  rintro r v20 ⟨rfl, hgc⟩
  replace hns := Nd.st _ _ _ _ hgc hns
  replace hva := hgc.heap hva
  replace hvz := hgc.heap hvz
  replace s5 := Ss.st _ _ _ _ hgc s5
  replace s6 := Ss.st _ _ _ _ hgc s6
  replace HG := Lib.hid (HG.out.trans hgc)
  clear hgc
  go_wp2_with fail
  obtain ⟨g17, hs17⟩ : ∃ g, v20.heap.size = g := ⟨_, rfl⟩
  have r5 : Rn [(.mk 3 2 0 ⟨#[]⟩ [] []), (.mk 3 1 0 ⟨#[]⟩ [] [])] (.slice (some ⟨v20.heap.size, 0, none⟩) 2 2) (v20.alloc (.cells #[.int .i64 3, .int .i64 2, .int .u64 0, .string ⟨#[]⟩, .slice none 0 0, .slice none 0 0, .int .i64 3, .int .i64 1, .int .u64 0, .string ⟨#[]⟩, .slice none 0 0, .slice none 0 0] 41)) := built_nodes v20 [(.mk 3 2 0 ⟨#[]⟩ [] []), (.mk 3 1 0 ⟨#[]⟩ [] [])] [.agg #[.int .i64 3, .int .i64 2, .int .u64 0, .string ⟨#[]⟩, .slice none 0 0, .slice none 0 0], .agg #[.int .i64 3, .int .i64 1, .int .u64 0, .string ⟨#[]⟩, .slice none 0 0, .slice none 0 0]] (by intro x hx; simp only [List.mem_cons, List.not_mem_nil, or_false] at hx; rcases hx with rfl | rfl <;> exact ⟨_, _, _, _, _, _, _, _, _, _, rfl⟩) ⟨_, _, rfl, (num_nd 2 (by unfold i64ok; decide) _), ⟨_, _, rfl, (num_nd 1 (by unfold i64ok; decide) _), rfl⟩⟩ (by simp)
  have hg17 := (Grew.refl v20).alloc (.cells #[.int .i64 3, .int .i64 2, .int .u64 0, .string ⟨#[]⟩, .slice none 0 0, .slice none 0 0, .int .i64 3, .int .i64 1, .int .u64 0, .string ⟨#[]⟩, .slice none 0 0, .slice none 0 0] 41)
  have hz17 : (v20.alloc (.cells #[.int .i64 3, .int .i64 2, .int .u64 0, .string ⟨#[]⟩, .slice none 0 0, .slice none 0 0, .int .i64 3, .int .i64 1, .int .u64 0, .string ⟨#[]⟩, .slice none 0 0, .slice none 0 0] 41)).heap.size = v20.heap.size + 1 := World.size_alloc _ _
  generalize (v20.alloc (.cells #[.int .i64 3, .int .i64 2, .int .u64 0, .string ⟨#[]⟩, .slice none 0 0, .slice none 0 0, .int .i64 3, .int .i64 1, .int .u64 0, .string ⟨#[]⟩, .slice none 0 0, .slice none 0 0] 41)) = w17 at *
  rw [hs17] at r5 hz17
  try rw [hs17]
  replace hns := Nd.st _ _ _ _ hg17 hns
  replace hva := hg17.heap hva
  replace hvz := hg17.heap hvz
  replace s5 := Ss.st _ _ _ _ hg17 s5
  replace s6 := Ss.st _ _ _ _ hg17 s6
  replace HG := Lib.hid (HG.out.trans hg17)
  clear hg17
  have n5 := table_nd s6 r5
  refine (table_any _ _ _ _ _ _ w17).mono ?_
  rintro r v21 ⟨rfl, hgc⟩
  replace hns := Nd.st _ _ _ _ hgc hns
  replace hva := hgc.heap hva
  replace hvz := hgc.heap hvz
  replace s5 := Ss.st _ _ _ _ hgc s5
  replace s6 := Ss.st _ _ _ _ hgc s6
  replace r5 := Rn.st _ _ _ _ hgc r5
  replace n5 := Nd.st _ _ _ _ hgc n5
  replace HG := Lib.hid (HG.out.trans hgc)
  clear hgc
  go_wp2_with fail
  refine (num_any 5 v21).mono ?_
  rintro r v22 ⟨rfl, hgc⟩
  replace hns := Nd.st _ _ _ _ hgc hns
  replace hva := hgc.heap hva
  replace hvz := hgc.heap hvz
  replace s5 := Ss.st _ _ _ _ hgc s5
  replace s6 := Ss.st _ _ _ _ hgc s6
  replace r5 := Rn.st _ _ _ _ hgc r5
  replace n5 := Nd.st _ _ _ _ hgc n5
  replace HG := Lib.hid (HG.out.trans hgc)
  clear hgc
  go_wp2_with fail
  obtain ⟨g18, hs18⟩ : ∃ g, v22.heap.size = g := ⟨_, rfl⟩
  have r6 : Rn [(.mk 17 0 0 ⟨#[]⟩ [⟨#[99]⟩, ⟨#[100]⟩] [(.mk 3 2 0 ⟨#[]⟩ [] []), (.mk 3 1 0 ⟨#[]⟩ [] [])]), (.mk 3 5 0 ⟨#[]⟩ [] [])] (.slice (some ⟨v22.heap.size, 0, none⟩) 2 2) (v22.alloc (.cells #[.int .i64 17, .int .i64 0, .int .u64 0, .string ⟨#[]⟩, .slice (some ⟨g14 + 1 + 1, 0, none⟩) 2 2, .slice (some ⟨g17, 0, none⟩) 2 2, .int .i64 3, .int .i64 5, .int .u64 0, .string ⟨#[]⟩, .slice none 0 0, .slice none 0 0] 41)) := built_nodes v22 [(.mk 17 0 0 ⟨#[]⟩ [⟨#[99]⟩, ⟨#[100]⟩] [(.mk 3 2 0 ⟨#[]⟩ [] []), (.mk 3 1 0 ⟨#[]⟩ [] [])]), (.mk 3 5 0 ⟨#[]⟩ [] [])] [.agg #[.int .i64 17, .int .i64 0, .int .u64 0, .string ⟨#[]⟩, .slice (some ⟨g14 + 1 + 1, 0, none⟩) 2 2, .slice (some ⟨g17, 0, none⟩) 2 2], .agg #[.int .i64 3, .int .i64 5, .int .u64 0, .string ⟨#[]⟩, .slice none 0 0, .slice none 0 0]] (by intro x hx; simp only [List.mem_cons, List.not_mem_nil, or_false] at hx; rcases hx with rfl | rfl <;> exact ⟨_, _, _, _, _, _, _, _, _, _, rfl⟩) ⟨_, _, rfl, n5, ⟨_, _, rfl, (num_nd 5 (by unfold i64ok; decide) _), rfl⟩⟩ (by simp)
  have hg18 := (Grew.refl v22).alloc (.cells #[.int .i64 17, .int .i64 0, .int .u64 0, .string ⟨#[]⟩, .slice (some ⟨g14 + 1 + 1, 0, none⟩) 2 2, .slice (some ⟨g17, 0, none⟩) 2 2, .int .i64 3, .int .i64 5, .int .u64 0, .string ⟨#[]⟩, .slice none 0 0, .slice none 0 0] 41)
  have hz18 : (v22.alloc (.cells #[.int .i64 17, .int .i64 0, .int .u64 0, .string ⟨#[]⟩, .slice (some ⟨g14 + 1 + 1, 0, none⟩) 2 2, .slice (some ⟨g17, 0, none⟩) 2 2, .int .i64 3, .int .i64 5, .int .u64 0, .string ⟨#[]⟩, .slice none 0 0, .slice none 0 0] 41)).heap.size = v22.heap.size + 1 := World.size_alloc _ _
  generalize (v22.alloc (.cells #[.int .i64 17, .int .i64 0, .int .u64 0, .string ⟨#[]⟩, .slice (some ⟨g14 + 1 + 1, 0, none⟩) 2 2, .slice (some ⟨g17, 0, none⟩) 2 2, .int .i64 3, .int .i64 5, .int .u64 0, .string ⟨#[]⟩, .slice none 0 0, .slice none 0 0] 41)) = w18 at *
  rw [hs18] at r6 hz18
  try rw [hs18]
  replace hns := Nd.st _ _ _ _ hg18 hns
  replace hva := hg18.heap hva
  replace hvz := hg18.heap hvz
  replace s5 := Ss.st _ _ _ _ hg18 s5
  replace s6 := Ss.st _ _ _ _ hg18 s6
  replace r5 := Rn.st _ _ _ _ hg18 r5
  replace n5 := Nd.st _ _ _ _ hg18 n5
  replace HG := Lib.hid (HG.out.trans hg18)
  clear hg18
  have n6 := table_nd s5 r6
  refine (table_any _ _ _ _ _ _ w18).mono ?_
  rintro r v23 ⟨rfl, hgc⟩
  replace hns := Nd.st _ _ _ _ hgc hns
  replace hva := hgc.heap hva
  replace hvz := hgc.heap hvz
  replace s5 := Ss.st _ _ _ _ hgc s5
  replace s6 := Ss.st _ _ _ _ hgc s6
  replace r5 := Rn.st _ _ _ _ hgc r5
  replace n5 := Nd.st _ _ _ _ hgc n5
  replace r6 := Rn.st _ _ _ _ hgc r6
  replace n6 := Nd.st _ _ _ _ hgc n6
  replace HG := Lib.hid (HG.out.trans hgc)
  clear hgc
  go_upto_region 11 with fail
  obtain ⟨g19, hs19⟩ : ∃ g, v23.heap.size = g := ⟨_, rfl⟩
  have r7 : Rn [(.mk 17 0 0 ⟨#[]⟩ [⟨#[97]⟩, ⟨#[98]⟩] [(.mk 17 0 0 ⟨#[]⟩ [⟨#[99]⟩, ⟨#[100]⟩] [(.mk 3 2 0 ⟨#[]⟩ [] []), (.mk 3 1 0 ⟨#[]⟩ [] [])]), (.mk 3 5 0 ⟨#[]⟩ [] [])])] (.slice (some ⟨v23.heap.size, 0, none⟩) 1 1) (v23.alloc (.cells #[.int .i64 17, .int .i64 0, .int .u64 0, .string ⟨#[]⟩, .slice (some ⟨g14 + 1, 0, none⟩) 2 2, .slice (some ⟨g18, 0, none⟩) 2 2] 41)) := built_nodes v23 [(.mk 17 0 0 ⟨#[]⟩ [⟨#[97]⟩, ⟨#[98]⟩] [(.mk 17 0 0 ⟨#[]⟩ [⟨#[99]⟩, ⟨#[100]⟩] [(.mk 3 2 0 ⟨#[]⟩ [] []), (.mk 3 1 0 ⟨#[]⟩ [] [])]), (.mk 3 5 0 ⟨#[]⟩ [] [])])] [.agg #[.int .i64 17, .int .i64 0, .int .u64 0, .string ⟨#[]⟩, .slice (some ⟨g14 + 1, 0, none⟩) 2 2, .slice (some ⟨g18, 0, none⟩) 2 2]] (by intro x hx; simp only [List.mem_cons, List.not_mem_nil, or_false] at hx; subst hx; exact ⟨_, _, _, _, _, _, _, _, _, _, rfl⟩) ⟨_, _, rfl, n6, rfl⟩ (by simp)
  have hg19 := (Grew.refl v23).alloc (.cells #[.int .i64 17, .int .i64 0, .int .u64 0, .string ⟨#[]⟩, .slice (some ⟨g14 + 1, 0, none⟩) 2 2, .slice (some ⟨g18, 0, none⟩) 2 2] 41)
  have hz19 : (v23.alloc (.cells #[.int .i64 17, .int .i64 0, .int .u64 0, .string ⟨#[]⟩, .slice (some ⟨g14 + 1, 0, none⟩) 2 2, .slice (some ⟨g18, 0, none⟩) 2 2] 41)).heap.size = v23.heap.size + 1 := World.size_alloc _ _
  generalize (v23.alloc (.cells #[.int .i64 17, .int .i64 0, .int .u64 0, .string ⟨#[]⟩, .slice (some ⟨g14 + 1, 0, none⟩) 2 2, .slice (some ⟨g18, 0, none⟩) 2 2] 41)) = w19 at *
  rw [hs19] at r7 hz19
  try rw [hs19]
  replace hns := Nd.st _ _ _ _ hg19 hns
  replace hva := hg19.heap hva
  replace hvz := hg19.heap hvz
  replace s5 := Ss.st _ _ _ _ hg19 s5
  replace s6 := Ss.st _ _ _ _ hg19 s6
  replace r5 := Rn.st _ _ _ _ hg19 r5
  replace n5 := Nd.st _ _ _ _ hg19 n5
  replace r6 := Rn.st _ _ _ _ hg19 r6
  replace n6 := Nd.st _ _ _ _ hg19 n6
  replace HG := Lib.hid (HG.out.trans hg19)
  clear hg19
  clear s5 s6 r5 r6 n5 n6 hvz
  have n7 := vec_nd r7
  have hs20 := hz19
  have hvw := heap_alloc_new w19 (.cells #[.int .i64 10, .int .i64 0, .int .u64 0, .string ⟨#[]⟩, .slice none 0 0, .slice (some ⟨g19, 0, none⟩) 1 1] 41)
  have hg20 := (Grew.refl w19).alloc (.cells #[.int .i64 10, .int .i64 0, .int .u64 0, .string ⟨#[]⟩, .slice none 0 0, .slice (some ⟨g19, 0, none⟩) 1 1] 41)
  have hz20 : (w19.alloc (.cells #[.int .i64 10, .int .i64 0, .int .u64 0, .string ⟨#[]⟩, .slice none 0 0, .slice (some ⟨g19, 0, none⟩) 1 1] 41)).heap.size = w19.heap.size + 1 := World.size_alloc _ _
  generalize (w19.alloc (.cells #[.int .i64 10, .int .i64 0, .int .u64 0, .string ⟨#[]⟩, .slice none 0 0, .slice (some ⟨g19, 0, none⟩) 1 1] 41)) = w20 at *
  rw [hs20] at hvw hz20
  try rw [hs20]
  replace hns := Nd.st _ _ _ _ hg20 hns
  replace hva := hg20.heap hva
  replace r7 := Rn.st _ _ _ _ hg20 r7
  replace n7 := Nd.st _ _ _ _ hg20 n7
  replace HG := Lib.hid (HG.out.trans hg20)
  clear hg20
  clear r7
  have a0 := row_cellT hva 0 _ rfl
  have a1 := row_cellT hva 1 _ rfl
  have a2 := row_cellT hva 2 _ rfl
  have a3 := row_cellT hva 3 _ rfl
  have a4 := row_cellT hva 4 _ rfl
  have a5 := row_cellT hva 5 _ rfl
  have b0 := row_cellT hvw 0 _ rfl
  have b1 := row_cellT hvw 1 _ rfl
  have b2 := row_cellT hvw 2 _ rfl
  have b3 := row_cellT hvw 3 _ rfl
  have b4 := row_cellT hvw 4 _ rfl
  have b5 := row_cellT hvw 5 _ rfl
  go_wp2_with fail
  refine (eqnode_any _ _ (Nat.le_refl _) _ _ _ _ hns n7).mono ?_
  rintro r v24 ⟨bq, rfl, hbq, hgc⟩
  obtain rfl : bq = true := hbq.2 w07_want
  clear hbq
  replace HG := Lib.hid (HG.out.trans hgc)
  clear hns n7 hva hvw a0 a1 a2 a3 a4 a5 b0 b1 b2 b3 b4 b5 hgc
  go_wp2_with fail
  go_ret
  exact ⟨rfl, HG.out⟩
end Go.Proofs.Ytnelhbkneokpiaa

/-
  How the laws' arguments read: strings, slices of strings; few. Conditions: the argument can be read as data.
-/
namespace Go.Proofs.Ytnelhbkneokpiaa
open Go Go.ChangeShapes Go.WideShapes Go.ChangeAt Go.RowKit Go.Joins Go.Deep
open Go.ChangeMaps (open_string shut_string)
set_option linter.unusedVariables false
set_option linter.unusedSimpArgs false

set_option maxRecDepth 100000 in
theorem open_strs1 {H : Type} {enc : TypeId × Value → H} {W : World} {base : Nat} {v : Value} {d : DataW H} {p : List MemPlace} (o : Value.okWide Try.prog W .any base 22 v) (k : DataW.Trod enc Try.prog W 0 (fun _ => true) true 22 v d p) : ∃ l, StrsAt W v l := by
  obtain ⟨fuel, hf⟩ := k
  obtain ⟨v', l, e, h⟩ := strs_of_trod hf
  obtain ⟨a, n, c, rfl⟩ := okWide_slice Try.underlying22 o
  simp [Value.cells] at e
  subst e
  exact ⟨l, h⟩
theorem lenok_short {s : ByteArray} {m : Nat} (hm : m ≤ 1000) : lenok (shortS s m).size := by unfold lenok; rw [shortS_size]; omega
set_option maxRecDepth 100000 in
theorem few07_any (v : Value) (l : List ByteArray) (w : World) (h : StrsAt w v l) :
    Calls Try.prog 11 #[v] w fun r w' => ∃ v', r = .returned v' ∧ StrsAt w' v' (textsS l 60 40) ∧ Grew w w' := by
  have HC := Lib.hid (texts_any 60 40 v l w h (by omega) (by omega))
  obtain ⟨a, c, rfl⟩ := h.form
  go_enter Try.func11, Try.ntmps11
  go_wp2_with fail
  refine HC.out.mono ?_
  rintro r w2 ⟨v', rfl, ho, hg⟩
  have hs := ho.strs (fun s hs => by
    simp only [textsS, List.mem_map] at hs
    obtain ⟨y, _, rfl⟩ := hs
    exact lenok_short (by omega))
  obtain ⟨a', c', rfl⟩ := hs.form
  clear ho
  go_wp2_with fail
  go_ret
  exact ⟨_, rfl, hs, hg⟩
theorem few_len (l : List ByteArray) : (textsS l 60 40).length ≤ 60 := by rw [textsS_length]; omega
end Go.Proofs.Ytnelhbkneokpiaa

/-
  Trees: Size and At, by the iterator over a tree's nodes. Conditions: the tree can be read.
-/
namespace Go.Proofs.Ytnelhbkneokpiaa
open Go Go.ChangeShapes Go.WideShapes Go.ChangeAt Go.RowKit Go.Joins Go.Deep Go.Shelf
set_option linter.unusedVariables false
set_option linter.unusedSimpArgs false
attribute [local go_sem] Oper.semAt_some

/-- Between two rounds of Size. -/
def SzI (w : World) (n : Nat) (W : World) : Prop := W.heap[w.heap.size + 1]? = some (.cells #[.int .i64 n] 3 (0, 0)) ∧ Grew w W
theorem SzI.own (w : World) {B : Nat} (hB : w.heap.size ≤ B) : OwnFrom B (fun (s : List (Visit (fun _ => True) w)) W => SzI w s.length W) := by
  rintro s A C row ⟨h1, h3⟩ hg hr
  exact ⟨kept_cells hg (fun r e => (hr r e).2) h1 rfl, grew_turn h3 hg (fun r e => (hr r e).1) hB⟩
set_option maxRecDepth 100000 in
set_option maxHeartbeats 4000000 in
theorem size_any (t : Tr) (v : Value) (w : World) (hn : NodeAt w t v) (hsz : t.size ≤ 1099511627776) :
    Calls Try.prog 30 #[v] w fun r w' => r = .returned (.int .i64 t.size) ∧ Grew w w' := by
  have h6 := hn.node6
  refine (callsIn_wide (n := 3)).1 ?_
  obtain ⟨xk, xn, xu, xs, xa4, xn4, xc4, xa5, xn5, xc5, rfl⟩ := h6
  refine callsIn_of_wp_marks Try.func30 rfl trivial ?_ rfl
  simp only [Try.ntmps30, List.size_toArray, List.length_cons, List.length_nil, Nat.reduceAdd, Nat.reduceSub, Array.replicate_succ, Array.replicate_zero, List.push_toArray, List.append_toArray, List.nil_append, List.cons_append]
  have hdd : ∀ q : Nat, (Fence.wide.depth.isSome = true → 1 ≤ q) := fun q h => by cases h
  gi_wp2_with (refine ⟨trivial, ?_⟩; refine (callsIn_wide.2 (walked_any _ _ ⟨_, _, _, _, _, _, _, _, _, _, rfl⟩)).mono ?_; rintro r w2 ⟨rfl, hw2⟩; have HW2 := Lib.hid hw2; clear hw2)
  obtain ⟨V, hV⟩ : ∃ V : Value, V = .agg #[.int .i64 xk, .int .i64 xn, .int .u64 xu, .string xs, .slice xa4 xn4 xc4, .slice xa5 xn5 xc5] := ⟨_, rfl⟩
  rw [← hV] at hn
  have HV := Lib.hid hV
  have hF : Hid (Grew w w2 ∧ w2.heap.size = w.heap.size + 3 ∧ w2.heap[w.heap.size + 1]? = some (.cells #[.int .i64 0] 3 (0, 0)) ∧ w2.heap[w.heap.size + 2]? = some (.cells V.cells 41 (0, 0))) := by
    show _ ∧ _
    rw [HW2.out, hV]
    obtain ⟨A, hA⟩ : ∃ A, w.alloc (.cells #[.int .i64 xk, .int .i64 xn, .int .u64 xu, .string xs, .slice xa4 xn4 xc4, .slice xa5 xn5 xc5] 41) = A := ⟨_, rfl⟩
    have sA : A.heap.size = w.heap.size + 1 := by rw [← hA, World.size_alloc]
    have gA : Grew w A := by rw [← hA]; exact (Grew.refl _).alloc _
    rw [hA]
    obtain ⟨B, hB⟩ : ∃ B, A.alloc (.cells #[.int .i64 0] 3) = B := ⟨_, rfl⟩
    have sB : B.heap.size = w.heap.size + 2 := by rw [← hB, World.size_alloc, sA]
    have gB : Grew A B := by rw [← hB]; exact (Grew.refl _).alloc _
    have bB := heap_alloc_new A (.cells #[.int .i64 0] 3)
    rw [hB, sA] at bB
    rw [hB]
    have gD := (Grew.refl B).alloc (.cells (Value.agg #[.int .i64 xk, .int .i64 xn, .int .u64 xu, .string xs, .slice xa4 xn4 xc4, .slice xa5 xn5 xc5]).cells 41)
    have bD := heap_alloc_new B (.cells (Value.agg #[.int .i64 xk, .int .i64 xn, .int .u64 xu, .string xs, .slice xa4 xn4 xc4, .slice xa5 xn5 xc5]).cells 41)
    rw [sB] at bD
    exact ⟨gA.trans (gB.trans gD), by rw [World.size_alloc, sB], gD.heap bB, bD⟩
  refine wpIn_rangeFunc_ownH rfl (by omega) (gf := 58) (lb := #[.pointer (some ⟨w.heap.size + 2, 0, none⟩)]) rfl trivial (enters_of Try.func58 (by kernel_rfl) rfl)
    (walked_stops (fun _ => True) (fun _ _ _ _ => trivial) _ w w2 (w.heap.size + 2) w.heap.size (w.heap.size + 2) t V hn (CellsK.of_grew hF.out.1) (Nat.le_refl _) (by have := hF.out.2.1; omega) hF.out.2.2.2 hsz trivial)
    KpC.trans (fun W l o o' _ h ho _ => KpC.turn W l o o' h ho) (Below.refl _ _) (fun _ => rfl)
    (fun pre W => SzI w pre.length W) (fun c pre W => False)
    (SzI.own w hF.out.1.size) (fun c => fun _ _ _ _ h _ _ => h.elim)
    ⟨hF.out.2.2.1, hF.out.1⟩
    (fun x a' W => a' = { tmps := #[.agg #[.int .i64 xk, .int .i64 xn, .int .u64 xu, .string xs, .slice xa4 xn4 xc4, .slice xa5 xn5 xc5], .pointer (some ⟨w.heap.size, 0, none⟩), .pointer (some ⟨w.heap.size + 1, 0, none⟩), .agg #[.int .i64 xk, .int .i64 xn, .int .u64 xu, .string xs, .slice xa4 xn4 xc4, .slice xa5 xn5 xc5], .func (.func 58) #[] #[.pointer (some ⟨w.heap.size + 2, 0, none⟩)], .int .i64 x.1.1, x.1.2.1, undef, undef, undef], defers := [] })
    ?hAx ?assign ?body ?done ?stop
  case hAx =>
    rintro x a' s A C row h hg hr
    exact h
  case assign =>
    rintro l pre ⟨⟨b, v, x⟩, hx, hb⟩ W K hi hK
    have HI := Lib.hid hi
    have HK := Lib.hid hK
    clear hi hK hn hV HW2
    simp only [Visit.encs]
    gi_wp2
    exact HK.out _ _ (keeps_grew (Grew.refl W)) (KpC.of_grew (Grew.refl W)) HI.out rfl
  case body =>
    rintro l pre X a' W hl _ hi rfl hlt
    obtain ⟨i2, i3⟩ := hi
    have hwr : wrap64 ((pre.length : Int) + 1) = (pre.length : Int) + 1 := IntWalk.wrap64_in _ (by omega)
    have q2 := row_cellT i2 0 _ rfl
    have f2 := row_frozen i2 0
    obtain ⟨W', hW'⟩ : ∃ W', W.setCell ⟨w.heap.size + 1, 0, none⟩ (.int .i64 ((pre.length : Int) + 1)) = W' := ⟨_, rfl⟩
    have hm : Moved (fun g => g = w.heap.size + 1) W W' := by rw [← hW']; exact Moved.setCell (S := fun g => g = w.heap.size + 1) (p := ⟨w.heap.size + 1, 0, none⟩) (Moved.refl _ W) (fun _ => rfl) _
    have j2 : W'.heap[w.heap.size + 1]? = some (.cells #[.int .i64 ((pre.length : Int) + 1)] 3 (0, 0)) := by rw [← hW']; have := heap_setCell_same W (w.heap.size + 1) 0 _ _ (.int .i64 ((pre.length : Int) + 1)) i2; simpa using this
    have j3 : Grew w W' := Moved.fresh i3 hm (fun g h => by omega)
    have HKF : Hid (KeepsFrom w2.heap.size W W' ∧ KpC w.heap.size (w.heap.size + 2) W W') := by
      show _ ∧ _
      rw [← hW']
      exact ⟨KeepsOthers.from (KeepsOthers.setCell _ _ _) _, KpC.setCell _ _ (by omega) (by omega) _⟩
    have HJ : Hid (SzI w (pre ++ [X]).length W') := by
      refine ⟨?_, j3⟩
      rw [j2, List.length_append]; rfl
    clear i2 i3 hm j2 j3 hl hlt hn hV HW2
    gi_wp2
    exact ⟨HKF.out.1, HKF.out.2, HJ.out⟩
  case done =>
    rintro D ys W hD hys ⟨h1, h2⟩ hK
    have hlen : ys.length = t.size := by
      have := congrArg List.length hys
      rwa [List.length_map, preT_length] at this
    rw [hlen] at h1
    have c1 := row_cellT h1 0 _ rfl
    have f1 := row_frozen h1 0
    obtain ⟨W', hW'⟩ : ∃ W', W.setCell ⟨w.heap.size + 1, 0, none⟩ (.int .i64 t.size) = W' := ⟨_, rfl⟩
    have hdl := hF.out.2.1
    have hm : Moved (fun g => g = w.heap.size + 1) W W' := by rw [← hW']; exact Moved.setCell (S := fun g => g = w.heap.size + 1) (p := ⟨w.heap.size + 1, 0, none⟩) (Moved.refl _ W) (fun _ => rfl) _
    have hK' := hm.heap hK (by omega)
    have hb' : W'.heap[w.heap.size + 1]? = some (.cells #[.int .i64 t.size] 3 (0, 0)) := by rw [← hW']; have := heap_setCell_same W (w.heap.size + 1) 0 _ _ (.int .i64 t.size) h1; simpa using this
    have hg' : Grew w W' := Moved.fresh h2 hm (fun g h => by omega)
    have HB := Lib.hid (And.intro hb' hg')
    have HKK := Lib.hid hK'
    have HDL : Hid (w.heap.size + 3 ≤ D) := by show _ ≤ _; omega
    clear h1 h2 hys hm hK hK' hb' hg' hD hdl hn hV HW2 hlen
    gi_wp2
    refine ⟨by simp, .inl ⟨_, _, rfl, run_takeDeferred HKK.out, ?_⟩⟩
    have hput : Grew w (W'.putObj D (.deferred none)) := grew_turn HB.out.2 (grownBy_putObj' W' D _) (fun r e => by cases e; exact Nat.le_refl _) (by have := HDL.out; omega)
    have hcell := row_cellT ((World.putObj_heap_other (by have := HDL.out; omega : w.heap.size + 1 ≠ D)).trans HB.out.1 : (W'.putObj D (.deferred none)).heap[w.heap.size + 1]? = _) 0 _ rfl
    refine ⟨.int .i64 t.size, by simp [results, Try.results30, go_sem, hcell], rfl, hput⟩
  case stop =>
    rintro D c pre W' hD ⟨zs, hpre⟩ h hK
    exact h.elim
/-- Between two rounds of At. -/
def AtI (w : World) (n k : Nat) (W : World) : Prop :=
  k ≤ n ∧ W.heap[w.heap.size + 2]? = some (.cells #[.int .i64 0, .int .i64 0, .int .u64 0, .string ⟨#[]⟩, .slice none 0 0, .slice none 0 0] 41 (0, 0)) ∧ W.heap[w.heap.size + 3]? = some (.cells #[.bool false] 4 (0, 0)) ∧
    W.heap[w.heap.size + 4]? = some (.cells #[.int .i64 k] 3 (0, 0)) ∧ W.heap[w.heap.size + 1]? = some (.cells #[.int .i64 n] 3 (0, 0)) ∧ Grew w W
/-- Where At has found the node. -/
def AtX (w : World) (n : Nat) (ps : List (Nat × Tr)) (W : World) : Prop :=
  ∃ b x c0 c1 c2 c3 c4 c5, ps[n]? = some (b, x) ∧ W.heap[w.heap.size + 2]? = some (.cells #[c0, c1, c2, c3, c4, c5] 41 (0, 0)) ∧ W.heap[w.heap.size + 3]? = some (.cells #[.bool true] 4 (0, 0)) ∧
    NodeAt W x (.agg #[c0, c1, c2, c3, c4, c5]) ∧ Grew w W
theorem few_kids : ∀ t, Few t → ∀ x ∈ t.kids, Few x := by
  rintro ⟨k, n, u, s, keys, l⟩ h x hx
  exact FewL.mem h.2.2 hx
theorem keeps_store6 (B : Nat) (W : World) (g : Nat) (a b c d e f : Value) : KeepsFrom B W (store6 W g a b c d e f) :=
  (((((KeepsOthers.from (KeepsOthers.setCell _ _ _) _).trans (KeepsOthers.from (KeepsOthers.setCell _ _ _) _)).trans (KeepsOthers.from (KeepsOthers.setCell _ _ _) _)).trans (KeepsOthers.from (KeepsOthers.setCell _ _ _) _)).trans (KeepsOthers.from (KeepsOthers.setCell _ _ _) _)).trans (KeepsOthers.from (KeepsOthers.setCell _ _ _) _)
theorem at_found {w W : World} {n b : Nat} {x : Tr} {ps : List (Nat × Tr)} {c0 c1 c2 c3 c4 c5 : Value} (h1 : ps[n]? = some (b, x)) (h2 : W.heap[w.heap.size + 2]? = some (.cells #[c0, c1, c2, c3, c4, c5] 41 (0, 0))) (h3 : W.heap[w.heap.size + 3]? = some (.cells #[.bool true] 4 (0, 0)))
    (h4 : NodeAt W x (.agg #[c0, c1, c2, c3, c4, c5])) (h5 : Grew w W) : AtX w n ps W := ⟨b, x, c0, c1, c2, c3, c4, c5, h1, h2, h3, h4, h5⟩
theorem cellsK_turn {W W' : World} {row : Option Nat} (hg : W.grownBy W' row) (hr : ∀ r, row = some r → ∃ o : Obj, W.heap[r]? = some o ∧ o.isCells = false) : CellsK W W' := fun k o hk ho => kept_cells hg hr hk ho
theorem AtI.own (w : World) (n : Nat) {B : Nat} (hB : w.heap.size ≤ B) : OwnFrom B (fun (s : List (Visit Few w)) W => AtI w n s.length W) := by
  rintro s A C row ⟨h0, h1, h2, h3, h4, h5⟩ hg hr
  have hc := fun r e => (hr r e).2
  exact ⟨h0, kept_cells hg hc h1 rfl, kept_cells hg hc h2 rfl, kept_cells hg hc h3 rfl, kept_cells hg hc h4 rfl, grew_turn h5 hg (fun r e => (hr r e).1) hB⟩
theorem AtX.own (w : World) (n : Nat) {B : Nat} (hB : w.heap.size ≤ B) : OwnFrom B (fun (s : List (Visit Few w)) W => AtX w n (s.map Visit.key) W) := by
  rintro s A C row ⟨b, x, c0, c1, c2, c3, c4, c5, h0, h1, h2, h3, h5⟩ hg hr
  have hc := fun r e => (hr r e).2
  exact ⟨b, x, c0, c1, c2, c3, c4, c5, h0, kept_cells hg hc h1 rfl, kept_cells hg hc h2 rfl, h3.cells (cellsK_turn hg hc), grew_turn h5 hg (fun r e => (hr r e).1) hB⟩
/-- What At hands back. -/
def AtOut (w : World) (t : Tr) (n : Nat) (r : Ending) (w' : World) : Prop :=
  Grew w w' ∧ ((∃ b x v, (preT 0 t)[n]? = some (b, x) ∧ r = .returned (.tuple #[v, .bool true]) ∧ NodeAt w' x v) ∨ ((preT 0 t)[n]? = none ∧ r = .returned (.tuple #[zeroNode, .bool false])))
theorem alloc_step {A : World} {k : Nat} (hs : A.heap.size = k) (o : Obj) : ∃ B, A.alloc o = B ∧ Grew A B ∧ B.heap.size = k + 1 ∧ B.heap[k]? = some o := by
  refine ⟨_, rfl, (Grew.refl _).alloc _, by rw [World.size_alloc, hs], ?_⟩
  rw [← hs]; exact heap_alloc_new A o
set_option maxRecDepth 100000 in
set_option maxHeartbeats 4000000 in
theorem at_any (t : Tr) (n : Nat) (hnn : n ≤ 1099511627776) (v : Value) (w : World) (hn : NodeAt w t v) (hfew : Few t) (hsz : t.size ≤ 1099511627776) :
    Calls Try.prog 31 #[v, .int .i64 n] w fun r w' => AtOut w t n r w' := by
  have h6 := hn.node6
  refine (callsIn_wide (n := 3)).1 ?_
  obtain ⟨xk, xn, xu, xs, xa4, xn4, xc4, xa5, xn5, xc5, rfl⟩ := h6
  refine callsIn_of_wp_marks Try.func31 rfl trivial ?_ rfl
  simp only [Try.ntmps31, List.size_toArray, List.length_cons, List.length_nil, Nat.reduceAdd, Nat.reduceSub, Array.replicate_succ, Array.replicate_zero, List.push_toArray, List.append_toArray, List.nil_append, List.cons_append]
  have hdd : ∀ q : Nat, (Fence.wide.depth.isSome = true → 1 ≤ q) := fun q h => by cases h
  gi_wp2_with (refine ⟨trivial, ?_⟩; refine (callsIn_wide.2 (walked_any _ _ ⟨_, _, _, _, _, _, _, _, _, _, rfl⟩)).mono ?_; rintro r w2 ⟨rfl, hw2⟩; have HW2 := Lib.hid hw2; clear hw2)
  obtain ⟨V, hV⟩ : ∃ V : Value, V = .agg #[.int .i64 xk, .int .i64 xn, .int .u64 xu, .string xs, .slice xa4 xn4 xc4, .slice xa5 xn5 xc5] := ⟨_, rfl⟩
  rw [← hV] at hn
  have HV := Lib.hid hV
  have hF : Hid (Grew w w2 ∧ w2.heap.size = w.heap.size + 6 ∧ w2.heap[w.heap.size + 1]? = some (.cells #[.int .i64 n] 3 (0, 0)) ∧ w2.heap[w.heap.size + 2]? = some (.cells #[.int .i64 0, .int .i64 0, .int .u64 0, .string ⟨#[]⟩, .slice none 0 0, .slice none 0 0] 41 (0, 0)) ∧ w2.heap[w.heap.size + 3]? = some (.cells #[.bool false] 4 (0, 0)) ∧ w2.heap[w.heap.size + 4]? = some (.cells #[.int .i64 0] 3 (0, 0)) ∧ w2.heap[w.heap.size + 5]? = some (.cells V.cells 41 (0, 0))) := by
    show _ ∧ _
    rw [HW2.out, hV]
    obtain ⟨A, hA, gA, sA, bA⟩ := alloc_step (rfl : w.heap.size = w.heap.size) (.cells #[.int .i64 xk, .int .i64 xn, .int .u64 xu, .string xs, .slice xa4 xn4 xc4, .slice xa5 xn5 xc5] 41)
    rw [hA]
    obtain ⟨B, hB, gB, sB, bB⟩ := alloc_step sA (.cells #[.int .i64 n] 3)
    rw [hB]
    obtain ⟨C, hC, gC, sC, bC⟩ := alloc_step sB (.cells #[.int .i64 0, .int .i64 0, .int .u64 0, .string ⟨#[]⟩, .slice none 0 0, .slice none 0 0] 41)
    rw [hC]
    obtain ⟨D, hD, gD, sD, bD⟩ := alloc_step sC (.cells #[.bool false] 4)
    rw [hD]
    obtain ⟨E, hE, gE, sE, bE⟩ := alloc_step sD (.cells #[.int .i64 0] 3)
    rw [hE]
    obtain ⟨G, hG, gG, sG, bG⟩ := alloc_step sE (.cells (Value.agg #[.int .i64 xk, .int .i64 xn, .int .u64 xu, .string xs, .slice xa4 xn4 xc4, .slice xa5 xn5 xc5]).cells 41)
    rw [hG]
    have g1 := gE.trans gG
    have g2 := gD.trans g1
    have g3 := gC.trans g2
    exact ⟨gA.trans (gB.trans g3), sG, g3.heap bB, g2.heap bC, g1.heap bD, gG.heap bE, bG⟩
  refine wpIn_rangeFunc_ownH rfl (by omega) (gf := 58) (lb := #[.pointer (some ⟨w.heap.size + 5, 0, none⟩)]) rfl trivial (enters_of Try.func58 (by kernel_rfl) rfl)
    (walked_stops Few few_kids _ w w2 (w.heap.size + 5) w.heap.size (w.heap.size + 5) t V hn (CellsK.of_grew hF.out.1) (Nat.le_refl _) (by have := hF.out.2.1; omega) hF.out.2.2.2.2.2.2 hsz hfew)
    KpC.trans (fun W l o o' _ h ho _ => KpC.turn W l o o' h ho) (Below.refl _ _) (fun _ => rfl)
    (fun pre W => AtI w n pre.length W) (fun c pre W => c = .ret ∧ AtX w n (pre.map Visit.key) W)
    (AtI.own w n hF.out.1.size) (fun c => OwnFrom.and (ownFrom_pure _ _) (AtX.own w n hF.out.1.size))
    ⟨Nat.zero_le _, hF.out.2.2.2.1, hF.out.2.2.2.2.1, hF.out.2.2.2.2.2.1, hF.out.2.2.1, hF.out.1⟩
    (fun x a' W => ∃ Bx, w.heap.size + 5 ≤ Bx ∧ W.heap[Bx]? = some (.cells x.1.2.1.cells 41 (0, 0)) ∧ a' = { tmps := #[.agg #[.int .i64 xk, .int .i64 xn, .int .u64 xu, .string xs, .slice xa4 xn4 xc4, .slice xa5 xn5 xc5], .int .i64 n, .pointer (some ⟨w.heap.size, 0, none⟩), .pointer (some ⟨w.heap.size + 1, 0, none⟩), .pointer (some ⟨w.heap.size + 2, 0, none⟩), .pointer (some ⟨w.heap.size + 3, 0, none⟩), .pointer (some ⟨w.heap.size + 4, 0, none⟩), undef, .pointer (some ⟨Bx, 0, none⟩), .agg #[.int .i64 xk, .int .i64 xn, .int .u64 xu, .string xs, .slice xa4 xn4 xc4, .slice xa5 xn5 xc5], .func (.func 58) #[] #[.pointer (some ⟨w.heap.size + 5, 0, none⟩)], .int .i64 x.1.1, x.1.2.1, undef, undef, undef, undef, undef, undef, undef, undef], defers := [] })
    ?hAx ?assign ?body ?done ?stop
  case hAx =>
    rintro x a' s A C row ⟨Bx, h1, h2, h3⟩ hg hr
    exact ⟨Bx, h1, kept_cells hg (fun r e => (hr r e).2) h2 rfl, h3⟩
  case assign =>
    rintro l pre ⟨⟨b, v, x⟩, hx, hb⟩ W K hi hK
    obtain ⟨yk, yn, yu, ys, ya4, yn4, yc4, ya5, yn5, yc5, rfl⟩ := hx.node6
    have HI := Lib.hid hi
    have HK := Lib.hid hK
    clear hi hK hn hV HW2
    simp only [Visit.encs]
    gi_wp2
    refine HK.out _ _ (KeepsOthers.from (KeepsOthers.alloc _ _) _) (KpC.of_grew ((Grew.refl W).alloc _)) ?_ ⟨W.heap.size, ?_, heap_alloc_new _ _, rfl⟩
    · exact (AtI.own w n hF.out.1.size).alloc _ HI.out
    · have h1 := (Array.getElem?_eq_some_iff.1 HI.out.2.2.2.1).1
      omega
  case body =>
    rintro l pre X a' W hl _ hi ⟨Bx, hBx, hbx, rfl⟩ hlt
    obtain ⟨b, v, x, hX, hx, hb, hfx⟩ : ∃ b v x, X.1 = (b, v, x) ∧ NodeAt w x v ∧ b ≤ 1099511627776 ∧ Few x := ⟨X.1.1, X.1.2.1, X.1.2.2, rfl, X.2.1, X.2.2.1, X.2.2.2⟩
    have HXK : Hid (X.key = (b, x)) := by show _ = _; simp [Visit.key, hX]
    rw [hX] at hbx ⊢
    clear hX
    have hxn := hx
    obtain ⟨yk, yn, yu, ys, ya4, yn4, yc4, ya5, yn5, yc5, rfl⟩ := hx.node6
    obtain ⟨i0, i1, i2, i3, i4, i5⟩ := hi
    simp only [Value.cells] at hbx
    have e0 := row_cellT hbx 0 _ rfl
    have e1 := row_cellT hbx 1 _ rfl
    have e2 := row_cellT hbx 2 _ rfl
    have e3 := row_cellT hbx 3 _ rfl
    have e4 := row_cellT hbx 4 _ rfl
    have e5 := row_cellT hbx 5 _ rfl
    have q4 := row_cellT i3 0 _ rfl
    have f4 := row_frozen i3 0
    have q1 := row_cellT i4 0 _ rfl
    have HJ := Lib.hid (And.intro i1 (And.intro i2 (And.intro i3 (And.intro i4 i5))))
    have HBX := Lib.hid hBx
    have hpl : (pre.map Visit.key ++ [(b, x)])[pre.length]? = some (b, x) := by
      rw [List.getElem?_append_right (by rw [List.length_map]; exact Nat.le_refl _), List.length_map, Nat.sub_self]; rfl
    have hme : List.map Visit.key (pre ++ [X]) = pre.map Visit.key ++ [(b, x)] := by rw [List.map_append, List.map_singleton, HXK.out]
    have HPL := Lib.hid (And.intro hpl hme)
    by_cases hk : pre.length = n
    · have hkb : ((pre.length : Int) == (n : Int)) = true := by rw [hk]; simp
      have HKN := Lib.hid hk
      have HCOPY := Lib.hid (treecopy_any x.size x (Nat.le_refl _) _ W (hxn.grew i5) hfx)
      clear hk i0 i1 i2 i3 i4 i5 hbx hx hxn hl hlt hn hV HW2 hb hfx hpl hme hBx hnn hfew hsz
      gi_wp2_with (refine ⟨trivial, ?_⟩; gi_at_call 44; refine (CallsIn.inRound l (callsIn_wide.2 HCOPY.out)).mono ?_; clear HCOPY; rintro r w3 ⟨v3, rfl, ho3, hg3⟩; obtain ⟨zk, zn, zu, zs, za4, zn4, zc4, za5, zn5, zc5, rfl⟩ := ho3.node6; have HO3 := Lib.hid ho3; have HG3 := Lib.hid hg3; have z0 := row_cellT (hg3.heap HJ.out.1) 0 _ rfl; have z1 := row_cellT (hg3.heap HJ.out.1) 1 _ rfl; have z2 := row_cellT (hg3.heap HJ.out.1) 2 _ rfl; have z3 := row_cellT (hg3.heap HJ.out.1) 3 _ rfl; have z4 := row_cellT (hg3.heap HJ.out.1) 4 _ rfl; have z5 := row_cellT (hg3.heap HJ.out.1) 5 _ rfl; have y0 := row_frozen (hg3.heap HJ.out.1) 0; have y1 := row_frozen (hg3.heap HJ.out.1) 1; have y2 := row_frozen (hg3.heap HJ.out.1) 2; have y3 := row_frozen (hg3.heap HJ.out.1) 3; have y4 := row_frozen (hg3.heap HJ.out.1) 4; have y5 := row_frozen (hg3.heap HJ.out.1) 5; have b0 := row_cellT (hg3.heap HJ.out.2.1) 0 _ rfl; have b1 := row_frozen (hg3.heap HJ.out.2.1) 0; clear ho3 hg3)
      have hm1 : Moved (fun g => g = w.heap.size + 2) w3 (store6 w3 (w.heap.size + 2) (.int .i64 zk) (.int .i64 zn) (.int .u64 zu) (.string zs) (.slice za4 zn4 zc4) (.slice za5 zn5 zc5)) := moved_store6 w3 _ _ _ _ _ _ _
      have hb1 : (store6 w3 (w.heap.size + 2) (.int .i64 zk) (.int .i64 zn) (.int .u64 zu) (.string zs) (.slice za4 zn4 zc4) (.slice za5 zn5 zc5)).heap[w.heap.size + 2]? = some (.cells #[.int .i64 zk, .int .i64 zn, .int .u64 zu, .string zs, .slice za4 zn4 zc4, .slice za5 zn5 zc5] 41 (0, 0)) := heap_store6 (HG3.out.heap HJ.out.1) (.int .i64 zk) (.int .i64 zn) (.int .u64 zu) (.string zs) (.slice za4 zn4 zc4) (.slice za5 zn5 zc5)
      have hk6 := keeps_store6 w2.heap.size w3 (w.heap.size + 2) (.int .i64 zk) (.int .i64 zn) (.int .u64 zu) (.string zs) (.slice za4 zn4 zc4) (.slice za5 zn5 zc5)
      show KeepsFrom _ W ((store6 w3 (w.heap.size + 2) (.int .i64 zk) (.int .i64 zn) (.int .u64 zu) (.string zs) (.slice za4 zn4 zc4) (.slice za5 zn5 zc5)).setCell ⟨w.heap.size + 3, 0, none⟩ (.bool true)) ∧ _ = _ ∧ AtX w n _ ((store6 w3 (w.heap.size + 2) (.int .i64 zk) (.int .i64 zn) (.int .u64 zu) (.string zs) (.slice za4 zn4 zc4) (.slice za5 zn5 zc5)).setCell ⟨w.heap.size + 3, 0, none⟩ (.bool true))
      generalize store6 w3 (w.heap.size + 2) (.int .i64 zk) (.int .i64 zn) (.int .u64 zu) (.string zs) (.slice za4 zn4 zc4) (.slice za5 zn5 zc5) = W4 at *
      have hm2 : Moved (fun g => g = w.heap.size + 3) W4 (W4.setCell ⟨w.heap.size + 3, 0, none⟩ (.bool true)) := Moved.setCell (S := fun g => g = w.heap.size + 3) (p := ⟨w.heap.size + 3, 0, none⟩) (Moved.refl _ _) (fun _ => rfl) _
      have hWs : w.heap.size + 3 < W.heap.size := (Array.getElem?_eq_some_iff.1 HJ.out.2.1).1
      have hb3 : (W4.setCell ⟨w.heap.size + 3, 0, none⟩ (.bool true)).heap[w.heap.size + 3]? = some (.cells #[.bool true] 4 (0, 0)) := by
        have := heap_setCell_same W4 (w.heap.size + 3) 0 _ _ (.bool true) (hm1.heap (HG3.out.heap HJ.out.2.1) (by omega))
        simpa using this
      have hk7 : KeepsFrom w2.heap.size W4 (W4.setCell ⟨w.heap.size + 3, 0, none⟩ (.bool true)) := KeepsOthers.from (KeepsOthers.setCell _ _ _) _
      generalize W4.setCell ⟨w.heap.size + 3, 0, none⟩ (.bool true) = W5 at *
      refine And.intro (((keeps_grew HG3.out).trans hk6).trans hk7) (And.intro rfl ?_)
      have hA1 : (List.map Visit.key (pre ++ [X]))[n]? = some (b, x) := by rw [HPL.out.2, ← HKN.out]; exact HPL.out.1
      have hA2 := hm2.heap hb1 (by omega)
      have hA3 : NodeAt W5 x (.agg #[.int .i64 zk, .int .i64 zn, .int .u64 zu, .string zs, .slice za4 zn4 zc4, .slice za5 zn5 zc5]) := ((HO3.out.kept hm1 (fun g h e => by have := h.1; omega)).kept hm2 (fun g h e => by have := h.1; omega)).node
      have hA4 : Grew w W5 := Moved.fresh (Moved.fresh (HJ.out.2.2.2.2.trans HG3.out) hm1 (fun g h => by omega)) hm2 (fun g h => by omega)
      exact at_found hA1 hA2 hb3 hA3 hA4
    · have hkb : ((pre.length : Int) == (n : Int)) = false := by
        simp only [beq_eq_false_iff_ne, ne_eq]; omega
      have hwr : wrap64 ((pre.length : Int) + 1) = (pre.length : Int) + 1 := IntWalk.wrap64_in _ (by omega)
      obtain ⟨W', hW'⟩ : ∃ W', W.setCell ⟨w.heap.size + 4, 0, none⟩ (.int .i64 ((pre.length : Int) + 1)) = W' := ⟨_, rfl⟩
      have hm : Moved (fun g => g = w.heap.size + 4) W W' := by rw [← hW']; exact Moved.setCell (S := fun g => g = w.heap.size + 4) (p := ⟨w.heap.size + 4, 0, none⟩) (Moved.refl _ W) (fun _ => rfl) _
      have j2 : W'.heap[w.heap.size + 4]? = some (.cells #[.int .i64 ((pre.length : Int) + 1)] 3 (0, 0)) := by rw [← hW']; have := heap_setCell_same W (w.heap.size + 4) 0 _ _ (.int .i64 ((pre.length : Int) + 1)) i3; simpa using this
      have HKF : Hid (KeepsFrom w2.heap.size W W' ∧ KpC w.heap.size (w.heap.size + 5) W W') := by
        show _ ∧ _
        rw [← hW']
        exact ⟨KeepsOthers.from (KeepsOthers.setCell _ _ _) _, KpC.setCell _ _ (by omega) (by omega) _⟩
      have HJ2 : Hid (AtI w n (pre ++ [X]).length W') := by
        refine ⟨by rw [List.length_append]; simp; omega, hm.heap i1 (by omega), hm.heap i2 (by omega), ?_, hm.heap i4 (by omega), Moved.fresh i5 hm (fun g h => by omega)⟩
        rw [j2, List.length_append]; rfl
      clear hk i0 i1 i2 i3 i4 i5 hbx hx hxn hl hlt hn hV HW2 hb hfx hpl hme hm j2 hBx hnn hfew hsz
      gi_wp2
      exact ⟨HKF.out.1, HKF.out.2, HJ2.out⟩
  case done =>
    rintro D ys W hD hys ⟨h0, h1, h2, h3, h4, h5⟩ hK
    have hlen : ys.length = t.size := by
      have := congrArg List.length hys
      rwa [List.length_map, preT_length] at this
    have HZ : Hid ((preT 0 t)[n]? = none) := by
      show _ = _
      rw [List.getElem?_eq_none_iff, preT_length]; omega
    have z0 := row_cellT h1 0 _ rfl
    have z1 := row_cellT h1 1 _ rfl
    have z2 := row_cellT h1 2 _ rfl
    have z3 := row_cellT h1 3 _ rfl
    have z4 := row_cellT h1 4 _ rfl
    have z5 := row_cellT h1 5 _ rfl
    have f0 := row_frozen h1 0
    have f1 := row_frozen h1 1
    have f2 := row_frozen h1 2
    have f3 := row_frozen h1 3
    have f4 := row_frozen h1 4
    have f5 := row_frozen h1 5
    have c1 := row_cellT h2 0 _ rfl
    have y1 := row_frozen h2 0
    have hdl := hF.out.2.1
    have hm1 : Moved (fun g => g = w.heap.size + 2) W (store6 W (w.heap.size + 2) (.int .i64 0) (.int .i64 0) (.int .u64 0) (.string ⟨#[]⟩) (.slice none 0 0) (.slice none 0 0)) := moved_store6 W _ _ _ _ _ _ _
    have hb1 : (store6 W (w.heap.size + 2) (.int .i64 0) (.int .i64 0) (.int .u64 0) (.string ⟨#[]⟩) (.slice none 0 0) (.slice none 0 0)).heap[w.heap.size + 2]? = some (.cells #[.int .i64 0, .int .i64 0, .int .u64 0, .string ⟨#[]⟩, .slice none 0 0, .slice none 0 0] 41 (0, 0)) := heap_store6 h1 _ _ _ _ _ _
    obtain ⟨W4, hW4⟩ : ∃ W4, store6 W (w.heap.size + 2) (.int .i64 0) (.int .i64 0) (.int .u64 0) (.string ⟨#[]⟩) (.slice none 0 0) (.slice none 0 0) = W4 := ⟨_, rfl⟩
    rw [hW4] at hm1 hb1
    obtain ⟨W5, hW5⟩ : ∃ W5, W4.setCell ⟨w.heap.size + 3, 0, none⟩ (.bool false) = W5 := ⟨_, rfl⟩
    have hm2 : Moved (fun g => g = w.heap.size + 3) W4 W5 := by rw [← hW5]; exact Moved.setCell (S := fun g => g = w.heap.size + 3) (p := ⟨w.heap.size + 3, 0, none⟩) (Moved.refl _ _) (fun _ => rfl) _
    have hb3 : W5.heap[w.heap.size + 3]? = some (.cells #[.bool false] 4 (0, 0)) := by
      rw [← hW5]
      have := heap_setCell_same W4 (w.heap.size + 3) 0 _ _ (.bool false) (hm1.heap h2 (by omega))
      simpa using this
    have hb1' := hm2.heap hb1 (by omega)
    have hK' := hm2.heap (hm1.heap hK (by omega)) (by omega)
    have hg' : Grew w W5 := Moved.fresh (Moved.fresh h5 hm1 (fun g h => by omega)) hm2 (fun g h => by omega)
    have HB := Lib.hid (And.intro hb1' (And.intro hb3 hg'))
    have HKK := Lib.hid hK'
    have HDL : Hid (w.heap.size + 6 ≤ D) := by show _ ≤ _; omega
    rw [← hW4] at hW5
    have HW5 := Lib.hid hW5
    clear h0 h1 h2 h3 h4 h5 hys hK hK' hb1 hb1' hb3 hg' hD hdl hn hV HW2 hlen hm1 hm2 hW5 hW4 hnn hfew hsz
    gi_wp2
    have hWW := HW5.out
    simp only [store6] at hWW
    rw [hWW]
    refine ⟨by simp, .inl ⟨_, _, rfl, run_takeDeferred HKK.out, ?_⟩⟩
    have hput : Grew w (W5.putObj D (.deferred none)) := grew_turn HB.out.2.2 (grownBy_putObj' W5 D _) (fun r e => by cases e; exact Nat.le_refl _) (by have := HDL.out; omega)
    have hk1 := (World.putObj_heap_other (o := .deferred none) (by have := HDL.out; omega : w.heap.size + 2 ≠ D)).trans HB.out.1
    have hk2 := (World.putObj_heap_other (o := .deferred none) (by have := HDL.out; omega : w.heap.size + 3 ≠ D)).trans HB.out.2.1
    have x0 := row_cellT (hk1 : (W5.putObj D (.deferred none)).heap[w.heap.size + 2]? = _) 0 _ rfl
    have x1 := row_cellT (hk1 : (W5.putObj D (.deferred none)).heap[w.heap.size + 2]? = _) 1 _ rfl
    have x2 := row_cellT (hk1 : (W5.putObj D (.deferred none)).heap[w.heap.size + 2]? = _) 2 _ rfl
    have x3 := row_cellT (hk1 : (W5.putObj D (.deferred none)).heap[w.heap.size + 2]? = _) 3 _ rfl
    have x4 := row_cellT (hk1 : (W5.putObj D (.deferred none)).heap[w.heap.size + 2]? = _) 4 _ rfl
    have x5 := row_cellT (hk1 : (W5.putObj D (.deferred none)).heap[w.heap.size + 2]? = _) 5 _ rfl
    have x6 := row_cellT (hk2 : (W5.putObj D (.deferred none)).heap[w.heap.size + 3]? = _) 0 _ rfl
    refine ⟨.tuple #[.agg #[.int .i64 0, .int .i64 0, .int .u64 0, .string ⟨#[]⟩, .slice none 0 0, .slice none 0 0], .bool false], by simp [results, Try.results31, go_sem, x0, x1, x2, x3, x4, x5, x6], hput, .inr ⟨HZ.out, rfl⟩⟩
  case stop =>
    rintro D c pre W' hD ⟨zs, hpre⟩ ⟨rfl, b, x, c0, c1, c2, c3, c4, c5, h1, h2, h3, h4, h5⟩ hK
    have HZ : Hid ((preT 0 t)[n]? = some (b, x)) := by
      show _ = _
      rw [← hpre, List.getElem?_append_left (List.getElem?_eq_some_iff.1 h1).1]; exact h1
    have hdl := hF.out.2.1
    have HB := Lib.hid (And.intro h2 (And.intro h3 (And.intro h4 h5)))
    have HKK := Lib.hid hK
    have HDL : Hid (w.heap.size + 6 ≤ D) := by show _ ≤ _; omega
    obtain ⟨zk, zn, zu, zs', za4, zn4, zc4, za5, zn5, zc5, ez⟩ := h4.node6
    injection ez with ez
    simp only [Array.mk.injEq, List.cons.injEq, and_true] at ez
    obtain ⟨rfl, rfl, rfl, rfl, rfl, rfl⟩ := ez
    clear h1 h2 h3 h4 h5 hpre hK hD hdl hn hV HW2 hnn hfew hsz
    gi_wp2
    refine ⟨by simp, .inl ⟨_, _, rfl, run_takeDeferred HKK.out, ?_⟩⟩
    have hput : Grew w (W'.putObj D (.deferred none)) := grew_turn HB.out.2.2.2 (grownBy_putObj' W' D _) (fun r e => by cases e; exact Nat.le_refl _) (by have := HDL.out; omega)
    have hk1 := (World.putObj_heap_other (o := .deferred none) (by have := HDL.out; omega : w.heap.size + 2 ≠ D)).trans HB.out.1
    have hk2 := (World.putObj_heap_other (o := .deferred none) (by have := HDL.out; omega : w.heap.size + 3 ≠ D)).trans HB.out.2.1
    have x0 := row_cellT (hk1 : (W'.putObj D (.deferred none)).heap[w.heap.size + 2]? = _) 0 _ rfl
    have x1 := row_cellT (hk1 : (W'.putObj D (.deferred none)).heap[w.heap.size + 2]? = _) 1 _ rfl
    have x2 := row_cellT (hk1 : (W'.putObj D (.deferred none)).heap[w.heap.size + 2]? = _) 2 _ rfl
    have x3 := row_cellT (hk1 : (W'.putObj D (.deferred none)).heap[w.heap.size + 2]? = _) 3 _ rfl
    have x4 := row_cellT (hk1 : (W'.putObj D (.deferred none)).heap[w.heap.size + 2]? = _) 4 _ rfl
    have x5 := row_cellT (hk1 : (W'.putObj D (.deferred none)).heap[w.heap.size + 2]? = _) 5 _ rfl
    have x6 := row_cellT (hk2 : (W'.putObj D (.deferred none)).heap[w.heap.size + 3]? = _) 0 _ rfl
    have hck : CellsK W' (W'.putObj D (.deferred none)) := by
      intro k o hk ho
      by_cases e : k = D
      · subst e; rw [HKK.out] at hk; cases hk; cases ho
      · exact (World.putObj_heap_other e).trans hk
    refine ⟨.tuple #[.agg #[.int .i64 zk, .int .i64 zn, .int .u64 zu, .string zs', .slice za4 zn4 zc4, .slice za5 zn5 zc5], .bool true], by simp [results, Try.results31, go_sem, x0, x1, x2, x3, x4, x5, x6], hput, .inl ⟨b, x, _, HZ.out, rfl, HB.out.2.2.1.cells hck⟩⟩
end Go.Proofs.Ytnelhbkneokpiaa
