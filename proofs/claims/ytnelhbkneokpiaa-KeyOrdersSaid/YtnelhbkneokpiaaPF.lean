/-
  Texts of the proof, part 6 of 6.
-/
import Derived.Test.YtnelhbkneokpiaaPE
import Derived.Test.YtnelhbkneokpiaaPC
import Derived.Deep.CutBlock
import Derived.Deep.DeepCutAuto
import Derived.Test.YtnelhbkneokpiaaPB
import Derived.Deep.QuietTactic
import Derived.BigQuiet
import Derived.Test.YtnelhbkneokpiaaPD
import Derived.Deep.DeepAppendRoom
import Derived.Deep.DeepAppendWide

/-
  Keys: the examples of the chapter hold. Conditions: none.
-/
namespace Go.Proofs.Ytnelhbkneokpiaa
open Go Go.ChangeShapes Go.WideShapes Go.ChangeAt Go.RowKit Go.Joins Go.Deep
set_option linter.unusedVariables false
set_option linter.unusedSimpArgs false

theorem lenoks (l : List ByteArray) (h : (l.all fun s => decide (s.size ≤ 9223372036854775807)) = true) : ∀ s ∈ l, lenok s.size := by
  intro s hs
  simpa [lenok] using List.all_eq_true.1 h s hs
theorem w07_k0 : keyE ⟨#[97]⟩ = 0 := by decide +kernel
theorem w07_k3 : keyE ⟨#[]⟩ = 0 := by decide +kernel
theorem w07_k7 : keyE ⟨#[97, 0]⟩ = 70 := by decide +kernel
theorem w07_l11 : ltS ⟨#[97]⟩ ⟨#[97, 98]⟩ = true := by decide +kernel
theorem w07_l15 : ltS ⟨#[97, 98]⟩ ⟨#[98]⟩ = true := by decide +kernel
theorem w07_l19 : ltS ⟨#[122]⟩ ⟨#[195, 169]⟩ = true := by decide +kernel
theorem w07_l23 : ltS ⟨#[97]⟩ ⟨#[97]⟩ = false := by decide +kernel
theorem w07_o2 : (decide ((ordK [⟨#[98]⟩, ⟨#[97]⟩, ⟨#[]⟩, ⟨#[97, 98]⟩]).1 = [2, 1, 3, 0]) && decide ((ordK [⟨#[98]⟩, ⟨#[97]⟩, ⟨#[]⟩, ⟨#[97, 98]⟩]).2 = 0)) = true := by decide +kernel
theorem w07_o6 : (decide ((ordK [⟨#[97]⟩, ⟨#[98]⟩, ⟨#[97]⟩]).1 = []) && decide ((ordK [⟨#[97]⟩, ⟨#[98]⟩, ⟨#[97]⟩]).2 = 71)) = true := by decide +kernel
theorem w07_o10 : (decide ((ordK []).1 = []) && decide ((ordK []).2 = 0)) = true := by decide +kernel
theorem w07_f1 : (decide ((findK [⟨#[97]⟩, ⟨#[99]⟩, ⟨#[101]⟩] ⟨#[99]⟩).1 = 1) && decide ((findK [⟨#[97]⟩, ⟨#[99]⟩, ⟨#[101]⟩] ⟨#[99]⟩).2 = true)) = true := by decide +kernel
theorem w07_f5 : (decide ((findK [⟨#[97]⟩, ⟨#[99]⟩, ⟨#[101]⟩] ⟨#[100]⟩).1 = 0) && decide ((findK [⟨#[97]⟩, ⟨#[99]⟩, ⟨#[101]⟩] ⟨#[100]⟩).2 = false)) = true := by decide +kernel
theorem w07_f10 : (decide ((findK [⟨#[99]⟩, ⟨#[97]⟩, ⟨#[98]⟩] ⟨#[99]⟩).1 = 0) && decide ((findK [⟨#[99]⟩, ⟨#[97]⟩, ⟨#[98]⟩] ⟨#[99]⟩).2 = false)) = true := by decide +kernel
theorem w07_f11 : (decide ((findK [⟨#[99]⟩, ⟨#[97]⟩, ⟨#[98]⟩] ⟨#[98]⟩).1 = 2) && decide ((findK [⟨#[99]⟩, ⟨#[97]⟩, ⟨#[98]⟩] ⟨#[98]⟩).2 = true)) = true := by decide +kernel
theorem w07_f12 : (decide ((findK [⟨#[99]⟩, ⟨#[97]⟩, ⟨#[98]⟩] ⟨#[97]⟩).1 = 0) && decide ((findK [⟨#[99]⟩, ⟨#[97]⟩, ⟨#[98]⟩] ⟨#[97]⟩).2 = false)) = true := by decide +kernel
theorem w07_c8 : checkE (.mk 10 0 0 ⟨#[]⟩ [] [(.mk 17 0 0 ⟨#[]⟩ [⟨#[98]⟩, ⟨#[97]⟩] [(.mk 3 5 0 ⟨#[]⟩ [] []), (.mk 17 0 0 ⟨#[]⟩ [⟨#[100]⟩, ⟨#[99]⟩] [(.mk 3 1 0 ⟨#[]⟩ [] []), (.mk 3 2 0 ⟨#[]⟩ [] [])])])]) = 0 := by decide +kernel
theorem w07_c9 : checkE (.mk 17 0 0 ⟨#[]⟩ [⟨#[97]⟩, ⟨#[97]⟩] [(.mk 3 5 0 ⟨#[]⟩ [] []), (.mk 3 5 0 ⟨#[]⟩ [] [])]) = 71 := by decide +kernel
theorem w07_want : sortT (.mk 10 0 0 ⟨#[]⟩ [] [(.mk 17 0 0 ⟨#[]⟩ [⟨#[98]⟩, ⟨#[97]⟩] [(.mk 3 5 0 ⟨#[]⟩ [] []), (.mk 17 0 0 ⟨#[]⟩ [⟨#[100]⟩, ⟨#[99]⟩] [(.mk 3 1 0 ⟨#[]⟩ [] []), (.mk 3 2 0 ⟨#[]⟩ [] [])])])]) = (.mk 10 0 0 ⟨#[]⟩ [] [(.mk 17 0 0 ⟨#[]⟩ [⟨#[97]⟩, ⟨#[98]⟩] [(.mk 17 0 0 ⟨#[]⟩ [⟨#[99]⟩, ⟨#[100]⟩] [(.mk 3 2 0 ⟨#[]⟩ [] []), (.mk 3 1 0 ⟨#[]⟩ [] [])]), (.mk 3 5 0 ⟨#[]⟩ [] [])])]) := by kernel_rfl
set_option maxRecDepth 100000 in
set_option maxHeartbeats 4000000 in
theorem works07_any (w : World) : Calls Try.prog 20 #[] w fun r w' => r = .returned (.bool true) ∧ Grew w w' := by
  go_enter Try.func20, Try.ntmps20
  have HG := Lib.hid (Grew.refl w)
  go_wp2_with fail
  have hh := kcheck_any ⟨#[97]⟩ w
  rw [w07_k0] at hh
  refine hh.mono ?_
  clear hh
  rintro r w' ⟨rfl, rfl⟩
  go_wp2_with fail
  have hh := kcheck_any ⟨#[]⟩ w
  rw [w07_k3] at hh
  refine hh.mono ?_
  clear hh
  rintro r w' ⟨rfl, rfl⟩
  go_wp2_with fail
  have hh := kcheck_any ⟨#[97, 0]⟩ w
  rw [w07_k7] at hh
  refine hh.mono ?_
  clear hh
  rintro r w' ⟨rfl, rfl⟩
  go_wp2_with fail
  have hh := kless_any ⟨#[97]⟩ ⟨#[97, 98]⟩ w
  rw [w07_l11] at hh
  refine hh.mono ?_
  clear hh
  rintro r w' ⟨rfl, rfl⟩
  go_wp2_with fail
  have hh := kless_any ⟨#[97, 98]⟩ ⟨#[98]⟩ w
  rw [w07_l15] at hh
  refine hh.mono ?_
  clear hh
  rintro r w' ⟨rfl, rfl⟩
  go_wp2_with fail
  have hh := kless_any ⟨#[122]⟩ ⟨#[195, 169]⟩ w
  rw [w07_l19] at hh
  refine hh.mono ?_
  clear hh
  rintro r w' ⟨rfl, rfl⟩
  go_wp2_with fail
  have hh := kless_any ⟨#[97]⟩ ⟨#[97]⟩ w
  rw [w07_l23] at hh
  refine hh.mono ?_
  clear hh
  rintro r w' ⟨rfl, rfl⟩
  go_wp2_with fail
  obtain ⟨g1, hs1⟩ : ∃ g, w.heap.size = g := ⟨_, rfl⟩
  have sa : Ss [⟨#[98]⟩, ⟨#[97]⟩, ⟨#[]⟩, ⟨#[97, 98]⟩] (.slice (some ⟨w.heap.size, 0, none⟩) 4 4) (w.alloc (.cells #[.string ⟨#[98]⟩, .string ⟨#[97]⟩, .string ⟨#[]⟩, .string ⟨#[97, 98]⟩] 9)) := built_strs w [⟨#[98]⟩, ⟨#[97]⟩, ⟨#[]⟩, ⟨#[97, 98]⟩] (lenoks _ (by decide)) (by decide)
  have hg1 := (Grew.refl w).alloc (.cells #[.string ⟨#[98]⟩, .string ⟨#[97]⟩, .string ⟨#[]⟩, .string ⟨#[97, 98]⟩] 9)
  have hz1 : (w.alloc (.cells #[.string ⟨#[98]⟩, .string ⟨#[97]⟩, .string ⟨#[]⟩, .string ⟨#[97, 98]⟩] 9)).heap.size = w.heap.size + 1 := World.size_alloc _ _
  generalize (w.alloc (.cells #[.string ⟨#[98]⟩, .string ⟨#[97]⟩, .string ⟨#[]⟩, .string ⟨#[97, 98]⟩] 9)) = w1 at *
  rw [hs1] at sa hz1
  try rw [hs1]
  replace HG := Lib.hid (HG.out.trans hg1)
  clear hg1
  have hs2 := hz1
  have ia : Ri [2, 1, 3, 0] (.slice (some ⟨w1.heap.size, 0, none⟩) 4 4) (w1.alloc (.cells #[.int .i64 2, .int .i64 1, .int .i64 3, .int .i64 0] 3)) := built_ints w1 [2, 1, 3, 0] (by decide)
  have hg2 := (Grew.refl w1).alloc (.cells #[.int .i64 2, .int .i64 1, .int .i64 3, .int .i64 0] 3)
  have hz2 : (w1.alloc (.cells #[.int .i64 2, .int .i64 1, .int .i64 3, .int .i64 0] 3)).heap.size = w1.heap.size + 1 := World.size_alloc _ _
  generalize (w1.alloc (.cells #[.int .i64 2, .int .i64 1, .int .i64 3, .int .i64 0] 3)) = w2 at *
  rw [hs2] at ia hz2
  try rw [hs2]
  replace sa := Ss.st _ _ _ _ hg2 sa
  replace HG := Lib.hid (HG.out.trans hg2)
  clear hg2
  have hh := ordered_any [⟨#[98]⟩, ⟨#[97]⟩, ⟨#[]⟩, ⟨#[97, 98]⟩] 0 [2, 1, 3, 0] (by decide) _ _ w2 sa ia
  rw [w07_o2] at hh
  refine hh.mono ?_
  clear hh
  rintro r v1 ⟨rfl, hgc⟩
  replace sa := Ss.st _ _ _ _ hgc sa
  replace ia := Ri.st _ _ _ _ hgc ia
  replace HG := Lib.hid (HG.out.trans hgc)
  clear hgc
  go_wp2_with fail
  clear sa ia
  obtain ⟨g3, hs3⟩ : ∃ g, v1.heap.size = g := ⟨_, rfl⟩
  have sb : Ss [⟨#[97]⟩, ⟨#[98]⟩, ⟨#[97]⟩] (.slice (some ⟨v1.heap.size, 0, none⟩) 3 3) (v1.alloc (.cells #[.string ⟨#[97]⟩, .string ⟨#[98]⟩, .string ⟨#[97]⟩] 9)) := built_strs v1 [⟨#[97]⟩, ⟨#[98]⟩, ⟨#[97]⟩] (lenoks _ (by decide)) (by decide)
  have hg3 := (Grew.refl v1).alloc (.cells #[.string ⟨#[97]⟩, .string ⟨#[98]⟩, .string ⟨#[97]⟩] 9)
  have hz3 : (v1.alloc (.cells #[.string ⟨#[97]⟩, .string ⟨#[98]⟩, .string ⟨#[97]⟩] 9)).heap.size = v1.heap.size + 1 := World.size_alloc _ _
  generalize (v1.alloc (.cells #[.string ⟨#[97]⟩, .string ⟨#[98]⟩, .string ⟨#[97]⟩] 9)) = w3 at *
  rw [hs3] at sb hz3
  try rw [hs3]
  replace HG := Lib.hid (HG.out.trans hg3)
  clear hg3
  have hh := ordered_any [⟨#[97]⟩, ⟨#[98]⟩, ⟨#[97]⟩] 71 [] (by decide) _ _ w3 sb (RowI.nil _)
  rw [w07_o6] at hh
  refine hh.mono ?_
  clear hh
  rintro r v2 ⟨rfl, hgc⟩
  replace sb := Ss.st _ _ _ _ hgc sb
  replace HG := Lib.hid (HG.out.trans hgc)
  clear hgc
  go_wp2_with fail
  clear sb
  have hh := ordered_any [] 0 [] (by decide) _ _ v2 (StrsAt.nil _) (RowI.nil _)
  rw [w07_o10] at hh
  refine hh.mono ?_
  clear hh
  rintro r v3 ⟨rfl, hgc⟩
  replace HG := Lib.hid (HG.out.trans hgc)
  clear hgc
  go_wp2_with fail
  obtain ⟨g4, hs4⟩ : ∃ g, v3.heap.size = g := ⟨_, rfl⟩
  have su : Ss [⟨#[97]⟩, ⟨#[99]⟩, ⟨#[101]⟩] (.slice (some ⟨v3.heap.size, 0, none⟩) 3 3) (v3.alloc (.cells #[.string ⟨#[97]⟩, .string ⟨#[99]⟩, .string ⟨#[101]⟩] 9)) := built_strs v3 [⟨#[97]⟩, ⟨#[99]⟩, ⟨#[101]⟩] (lenoks _ (by decide)) (by decide)
  have hg4 := (Grew.refl v3).alloc (.cells #[.string ⟨#[97]⟩, .string ⟨#[99]⟩, .string ⟨#[101]⟩] 9)
  have hz4 : (v3.alloc (.cells #[.string ⟨#[97]⟩, .string ⟨#[99]⟩, .string ⟨#[101]⟩] 9)).heap.size = v3.heap.size + 1 := World.size_alloc _ _
  generalize (v3.alloc (.cells #[.string ⟨#[97]⟩, .string ⟨#[99]⟩, .string ⟨#[101]⟩] 9)) = w4 at *
  rw [hs4] at su hz4
  try rw [hs4]
  replace HG := Lib.hid (HG.out.trans hg4)
  clear hg4
  have hs5 := hz4
  have so : Ss [⟨#[99]⟩, ⟨#[97]⟩, ⟨#[98]⟩] (.slice (some ⟨w4.heap.size, 0, none⟩) 3 3) (w4.alloc (.cells #[.string ⟨#[99]⟩, .string ⟨#[97]⟩, .string ⟨#[98]⟩] 9)) := built_strs w4 [⟨#[99]⟩, ⟨#[97]⟩, ⟨#[98]⟩] (lenoks _ (by decide)) (by decide)
  have hg5 := (Grew.refl w4).alloc (.cells #[.string ⟨#[99]⟩, .string ⟨#[97]⟩, .string ⟨#[98]⟩] 9)
  have hz5 : (w4.alloc (.cells #[.string ⟨#[99]⟩, .string ⟨#[97]⟩, .string ⟨#[98]⟩] 9)).heap.size = w4.heap.size + 1 := World.size_alloc _ _
  generalize (w4.alloc (.cells #[.string ⟨#[99]⟩, .string ⟨#[97]⟩, .string ⟨#[98]⟩] 9)) = w5 at *
  rw [hs5] at so hz5
  try rw [hs5]
  replace su := Ss.st _ _ _ _ hg5 su
  replace HG := Lib.hid (HG.out.trans hg5)
  clear hg5
  have hh := found_any [⟨#[97]⟩, ⟨#[99]⟩, ⟨#[101]⟩] ⟨#[99]⟩ 1 true _ w5 su
  rw [w07_f1] at hh
  refine hh.mono ?_
  clear hh
  rintro r v4 ⟨rfl, hgc⟩
  replace su := Ss.st _ _ _ _ hgc su
  replace so := Ss.st _ _ _ _ hgc so
  replace HG := Lib.hid (HG.out.trans hgc)
  clear hgc
  go_wp2_with fail
  have hh := found_any [⟨#[97]⟩, ⟨#[99]⟩, ⟨#[101]⟩] ⟨#[100]⟩ 0 false _ v4 su
  rw [w07_f5] at hh
  refine hh.mono ?_
  clear hh
  rintro r v5 ⟨rfl, hgc⟩
  replace su := Ss.st _ _ _ _ hgc su
  replace so := Ss.st _ _ _ _ hgc so
  replace HG := Lib.hid (HG.out.trans hgc)
  clear hgc
  go_wp2_with fail
  have hh := found_any [⟨#[99]⟩, ⟨#[97]⟩, ⟨#[98]⟩] ⟨#[99]⟩ 0 false _ v5 so
  rw [w07_f10] at hh
  refine hh.mono ?_
  clear hh
  rintro r v6 ⟨rfl, hgc⟩
  replace su := Ss.st _ _ _ _ hgc su
  replace so := Ss.st _ _ _ _ hgc so
  replace HG := Lib.hid (HG.out.trans hgc)
  clear hgc
  go_wp2_with fail
  have hh := found_any [⟨#[99]⟩, ⟨#[97]⟩, ⟨#[98]⟩] ⟨#[98]⟩ 2 true _ v6 so
  rw [w07_f11] at hh
  refine hh.mono ?_
  clear hh
  rintro r v7 ⟨rfl, hgc⟩
  replace su := Ss.st _ _ _ _ hgc su
  replace so := Ss.st _ _ _ _ hgc so
  replace HG := Lib.hid (HG.out.trans hgc)
  clear hgc
  go_wp2_with fail
  have hh := found_any [⟨#[99]⟩, ⟨#[97]⟩, ⟨#[98]⟩] ⟨#[97]⟩ 0 false _ v7 so
  rw [w07_f12] at hh
  refine hh.mono ?_
  clear hh
  rintro r v8 ⟨rfl, hgc⟩
  replace su := Ss.st _ _ _ _ hgc su
  replace so := Ss.st _ _ _ _ hgc so
  replace HG := Lib.hid (HG.out.trans hgc)
  clear hgc
  go_wp2_with fail
  clear su so
  obtain ⟨g6, hs6⟩ : ∃ g, v8.heap.size = g := ⟨_, rfl⟩
  have s1 : Ss [⟨#[98]⟩, ⟨#[97]⟩] (.slice (some ⟨v8.heap.size, 0, none⟩) 2 2) (v8.alloc (.cells #[.string ⟨#[98]⟩, .string ⟨#[97]⟩] 9)) := built_strs v8 [⟨#[98]⟩, ⟨#[97]⟩] (lenoks _ (by decide)) (by decide)
  have hg6 := (Grew.refl v8).alloc (.cells #[.string ⟨#[98]⟩, .string ⟨#[97]⟩] 9)
  have hz6 : (v8.alloc (.cells #[.string ⟨#[98]⟩, .string ⟨#[97]⟩] 9)).heap.size = v8.heap.size + 1 := World.size_alloc _ _
  generalize (v8.alloc (.cells #[.string ⟨#[98]⟩, .string ⟨#[97]⟩] 9)) = w6 at *
  rw [hs6] at s1 hz6
  try rw [hs6]
  replace HG := Lib.hid (HG.out.trans hg6)
  clear hg6
  refine (num_any 5 w6).mono ?_
  rintro r v9 ⟨rfl, hgc⟩
  replace s1 := Ss.st _ _ _ _ hgc s1
  replace HG := Lib.hid (HG.out.trans hgc)
  clear hgc
  go_wp2_with fail
  obtain ⟨g7, hs7⟩ : ∃ g, v9.heap.size = g := ⟨_, rfl⟩
  have s2 : Ss [⟨#[100]⟩, ⟨#[99]⟩] (.slice (some ⟨v9.heap.size, 0, none⟩) 2 2) (v9.alloc (.cells #[.string ⟨#[100]⟩, .string ⟨#[99]⟩] 9)) := built_strs v9 [⟨#[100]⟩, ⟨#[99]⟩] (lenoks _ (by decide)) (by decide)
  have hg7 := (Grew.refl v9).alloc (.cells #[.string ⟨#[100]⟩, .string ⟨#[99]⟩] 9)
  have hz7 : (v9.alloc (.cells #[.string ⟨#[100]⟩, .string ⟨#[99]⟩] 9)).heap.size = v9.heap.size + 1 := World.size_alloc _ _
  generalize (v9.alloc (.cells #[.string ⟨#[100]⟩, .string ⟨#[99]⟩] 9)) = w7 at *
  rw [hs7] at s2 hz7
  try rw [hs7]
  replace s1 := Ss.st _ _ _ _ hg7 s1
  replace HG := Lib.hid (HG.out.trans hg7)
  clear hg7
  refine (num_any 1 w7).mono ?_
  rintro r v10 ⟨rfl, hgc⟩
  replace s1 := Ss.st _ _ _ _ hgc s1
  replace s2 := Ss.st _ _ _ _ hgc s2
  replace HG := Lib.hid (HG.out.trans hgc)
  clear hgc
  go_wp2_with fail
  refine (num_any 2 v10).mono ?_
  rintro r v11 ⟨rfl, hgc⟩
  replace s1 := Ss.st _ _ _ _ hgc s1
  replace s2 := Ss.st _ _ _ _ hgc s2
  replace HG := Lib.hid (HG.out.trans hgc)
  clear hgc
  go_wp2_with fail
  obtain ⟨g8, hs8⟩ : ∃ g, v11.heap.size = g := ⟨_, rfl⟩
  have r1 : Rn [(.mk 3 1 0 ⟨#[]⟩ [] []), (.mk 3 2 0 ⟨#[]⟩ [] [])] (.slice (some ⟨v11.heap.size, 0, none⟩) 2 2) (v11.alloc (.cells #[.int .i64 3, .int .i64 1, .int .u64 0, .string ⟨#[]⟩, .slice none 0 0, .slice none 0 0, .int .i64 3, .int .i64 2, .int .u64 0, .string ⟨#[]⟩, .slice none 0 0, .slice none 0 0] 41)) := built_nodes v11 [(.mk 3 1 0 ⟨#[]⟩ [] []), (.mk 3 2 0 ⟨#[]⟩ [] [])] [.agg #[.int .i64 3, .int .i64 1, .int .u64 0, .string ⟨#[]⟩, .slice none 0 0, .slice none 0 0], .agg #[.int .i64 3, .int .i64 2, .int .u64 0, .string ⟨#[]⟩, .slice none 0 0, .slice none 0 0]] (by intro x hx; simp only [List.mem_cons, List.not_mem_nil, or_false] at hx; rcases hx with rfl | rfl <;> exact ⟨_, _, _, _, _, _, _, _, _, _, rfl⟩) ⟨_, _, rfl, (num_nd 1 (by unfold i64ok; decide) _), ⟨_, _, rfl, (num_nd 2 (by unfold i64ok; decide) _), rfl⟩⟩ (by simp)
  have hg8 := (Grew.refl v11).alloc (.cells #[.int .i64 3, .int .i64 1, .int .u64 0, .string ⟨#[]⟩, .slice none 0 0, .slice none 0 0, .int .i64 3, .int .i64 2, .int .u64 0, .string ⟨#[]⟩, .slice none 0 0, .slice none 0 0] 41)
  have hz8 : (v11.alloc (.cells #[.int .i64 3, .int .i64 1, .int .u64 0, .string ⟨#[]⟩, .slice none 0 0, .slice none 0 0, .int .i64 3, .int .i64 2, .int .u64 0, .string ⟨#[]⟩, .slice none 0 0, .slice none 0 0] 41)).heap.size = v11.heap.size + 1 := World.size_alloc _ _
  generalize (v11.alloc (.cells #[.int .i64 3, .int .i64 1, .int .u64 0, .string ⟨#[]⟩, .slice none 0 0, .slice none 0 0, .int .i64 3, .int .i64 2, .int .u64 0, .string ⟨#[]⟩, .slice none 0 0, .slice none 0 0] 41)) = w8 at *
  rw [hs8] at r1 hz8
  try rw [hs8]
  replace s1 := Ss.st _ _ _ _ hg8 s1
  replace s2 := Ss.st _ _ _ _ hg8 s2
  replace HG := Lib.hid (HG.out.trans hg8)
  clear hg8
  have n1 := table_nd s2 r1
  refine (table_any _ _ _ _ _ _ w8).mono ?_
  rintro r v12 ⟨rfl, hgc⟩
  replace s1 := Ss.st _ _ _ _ hgc s1
  replace s2 := Ss.st _ _ _ _ hgc s2
  replace r1 := Rn.st _ _ _ _ hgc r1
  replace n1 := Nd.st _ _ _ _ hgc n1
  replace HG := Lib.hid (HG.out.trans hgc)
  clear hgc
  go_wp2_with fail
  obtain ⟨g9, hs9⟩ : ∃ g, v12.heap.size = g := ⟨_, rfl⟩
  have r2 : Rn [(.mk 3 5 0 ⟨#[]⟩ [] []), (.mk 17 0 0 ⟨#[]⟩ [⟨#[100]⟩, ⟨#[99]⟩] [(.mk 3 1 0 ⟨#[]⟩ [] []), (.mk 3 2 0 ⟨#[]⟩ [] [])])] (.slice (some ⟨v12.heap.size, 0, none⟩) 2 2) (v12.alloc (.cells #[.int .i64 3, .int .i64 5, .int .u64 0, .string ⟨#[]⟩, .slice none 0 0, .slice none 0 0, .int .i64 17, .int .i64 0, .int .u64 0, .string ⟨#[]⟩, .slice (some ⟨g7, 0, none⟩) 2 2, .slice (some ⟨g8, 0, none⟩) 2 2] 41)) := built_nodes v12 [(.mk 3 5 0 ⟨#[]⟩ [] []), (.mk 17 0 0 ⟨#[]⟩ [⟨#[100]⟩, ⟨#[99]⟩] [(.mk 3 1 0 ⟨#[]⟩ [] []), (.mk 3 2 0 ⟨#[]⟩ [] [])])] [.agg #[.int .i64 3, .int .i64 5, .int .u64 0, .string ⟨#[]⟩, .slice none 0 0, .slice none 0 0], .agg #[.int .i64 17, .int .i64 0, .int .u64 0, .string ⟨#[]⟩, .slice (some ⟨g7, 0, none⟩) 2 2, .slice (some ⟨g8, 0, none⟩) 2 2]] (by intro x hx; simp only [List.mem_cons, List.not_mem_nil, or_false] at hx; rcases hx with rfl | rfl <;> exact ⟨_, _, _, _, _, _, _, _, _, _, rfl⟩) ⟨_, _, rfl, (num_nd 5 (by unfold i64ok; decide) _), ⟨_, _, rfl, (Nd.st _ _ _ _ ((Grew.refl _)) n1), rfl⟩⟩ (by simp)
  have hg9 := (Grew.refl v12).alloc (.cells #[.int .i64 3, .int .i64 5, .int .u64 0, .string ⟨#[]⟩, .slice none 0 0, .slice none 0 0, .int .i64 17, .int .i64 0, .int .u64 0, .string ⟨#[]⟩, .slice (some ⟨g7, 0, none⟩) 2 2, .slice (some ⟨g8, 0, none⟩) 2 2] 41)
  have hz9 : (v12.alloc (.cells #[.int .i64 3, .int .i64 5, .int .u64 0, .string ⟨#[]⟩, .slice none 0 0, .slice none 0 0, .int .i64 17, .int .i64 0, .int .u64 0, .string ⟨#[]⟩, .slice (some ⟨g7, 0, none⟩) 2 2, .slice (some ⟨g8, 0, none⟩) 2 2] 41)).heap.size = v12.heap.size + 1 := World.size_alloc _ _
  generalize (v12.alloc (.cells #[.int .i64 3, .int .i64 5, .int .u64 0, .string ⟨#[]⟩, .slice none 0 0, .slice none 0 0, .int .i64 17, .int .i64 0, .int .u64 0, .string ⟨#[]⟩, .slice (some ⟨g7, 0, none⟩) 2 2, .slice (some ⟨g8, 0, none⟩) 2 2] 41)) = w9 at *
  rw [hs9] at r2 hz9
  try rw [hs9]
  replace s1 := Ss.st _ _ _ _ hg9 s1
  replace s2 := Ss.st _ _ _ _ hg9 s2
  replace r1 := Rn.st _ _ _ _ hg9 r1
  replace n1 := Nd.st _ _ _ _ hg9 n1
  replace HG := Lib.hid (HG.out.trans hg9)
  clear hg9
  have n2 := table_nd s1 r2
  refine (table_any _ _ _ _ _ _ w9).mono ?_
  rintro r v13 ⟨rfl, hgc⟩
  replace s1 := Ss.st _ _ _ _ hgc s1
  replace s2 := Ss.st _ _ _ _ hgc s2
  replace r1 := Rn.st _ _ _ _ hgc r1
  replace n1 := Nd.st _ _ _ _ hgc n1
  replace r2 := Rn.st _ _ _ _ hgc r2
  replace n2 := Nd.st _ _ _ _ hgc n2
  replace HG := Lib.hid (HG.out.trans hgc)
  clear hgc
  go_wp2_with fail
  obtain ⟨g10, hs10⟩ : ∃ g, v13.heap.size = g := ⟨_, rfl⟩
  have r3 : Rn [(.mk 17 0 0 ⟨#[]⟩ [⟨#[98]⟩, ⟨#[97]⟩] [(.mk 3 5 0 ⟨#[]⟩ [] []), (.mk 17 0 0 ⟨#[]⟩ [⟨#[100]⟩, ⟨#[99]⟩] [(.mk 3 1 0 ⟨#[]⟩ [] []), (.mk 3 2 0 ⟨#[]⟩ [] [])])])] (.slice (some ⟨v13.heap.size, 0, none⟩) 1 1) (v13.alloc (.cells #[.int .i64 17, .int .i64 0, .int .u64 0, .string ⟨#[]⟩, .slice (some ⟨g6, 0, none⟩) 2 2, .slice (some ⟨g9, 0, none⟩) 2 2] 41)) := built_nodes v13 [(.mk 17 0 0 ⟨#[]⟩ [⟨#[98]⟩, ⟨#[97]⟩] [(.mk 3 5 0 ⟨#[]⟩ [] []), (.mk 17 0 0 ⟨#[]⟩ [⟨#[100]⟩, ⟨#[99]⟩] [(.mk 3 1 0 ⟨#[]⟩ [] []), (.mk 3 2 0 ⟨#[]⟩ [] [])])])] [.agg #[.int .i64 17, .int .i64 0, .int .u64 0, .string ⟨#[]⟩, .slice (some ⟨g6, 0, none⟩) 2 2, .slice (some ⟨g9, 0, none⟩) 2 2]] (by intro x hx; simp only [List.mem_cons, List.not_mem_nil, or_false] at hx; subst hx; exact ⟨_, _, _, _, _, _, _, _, _, _, rfl⟩) ⟨_, _, rfl, n2, rfl⟩ (by simp)
  have hg10 := (Grew.refl v13).alloc (.cells #[.int .i64 17, .int .i64 0, .int .u64 0, .string ⟨#[]⟩, .slice (some ⟨g6, 0, none⟩) 2 2, .slice (some ⟨g9, 0, none⟩) 2 2] 41)
  have hz10 : (v13.alloc (.cells #[.int .i64 17, .int .i64 0, .int .u64 0, .string ⟨#[]⟩, .slice (some ⟨g6, 0, none⟩) 2 2, .slice (some ⟨g9, 0, none⟩) 2 2] 41)).heap.size = v13.heap.size + 1 := World.size_alloc _ _
  generalize (v13.alloc (.cells #[.int .i64 17, .int .i64 0, .int .u64 0, .string ⟨#[]⟩, .slice (some ⟨g6, 0, none⟩) 2 2, .slice (some ⟨g9, 0, none⟩) 2 2] 41)) = w10 at *
  rw [hs10] at r3 hz10
  try rw [hs10]
  replace s1 := Ss.st _ _ _ _ hg10 s1
  replace s2 := Ss.st _ _ _ _ hg10 s2
  replace r1 := Rn.st _ _ _ _ hg10 r1
  replace n1 := Nd.st _ _ _ _ hg10 n1
  replace r2 := Rn.st _ _ _ _ hg10 r2
  replace n2 := Nd.st _ _ _ _ hg10 n2
  replace HG := Lib.hid (HG.out.trans hg10)
  clear hg10
  clear s1 s2 r1 r2 n1 n2
  have n3 := vec_nd r3
  refine (sorted_any (.mk 10 0 0 ⟨#[]⟩ [] [(.mk 17 0 0 ⟨#[]⟩ [⟨#[98]⟩, ⟨#[97]⟩] [(.mk 3 5 0 ⟨#[]⟩ [] []), (.mk 17 0 0 ⟨#[]⟩ [⟨#[100]⟩, ⟨#[99]⟩] [(.mk 3 1 0 ⟨#[]⟩ [] []), (.mk 3 2 0 ⟨#[]⟩ [] [])])])]) _ w10 n3 (by decide)).mono ?_
  intro r v14 hs
  obtain ⟨hgc, sv, rfl, hsv⟩ := sorted_ndZ hs w07_c8
  clear hs
  clear r3 n3
  replace HG := Lib.hid (HG.out.trans hgc)
  clear hgc
  have hns := hsv.nd
  clear hsv
  obtain ⟨zk, zn, zu, zs, za4, zn4, zc4, za5, zn5, zc5, rfl⟩ := NodeAt.node6 hns
  go_wp2_with fail
  obtain ⟨g11, hs11⟩ : ∃ g, v14.heap.size = g := ⟨_, rfl⟩
  have hva := heap_alloc_new v14 (.cells #[.int .i64 zk, .int .i64 zn, .int .u64 zu, .string zs, .slice za4 zn4 zc4, .slice za5 zn5 zc5] 41)
  have hg11 := (Grew.refl v14).alloc (.cells #[.int .i64 zk, .int .i64 zn, .int .u64 zu, .string zs, .slice za4 zn4 zc4, .slice za5 zn5 zc5] 41)
  have hz11 : (v14.alloc (.cells #[.int .i64 zk, .int .i64 zn, .int .u64 zu, .string zs, .slice za4 zn4 zc4, .slice za5 zn5 zc5] 41)).heap.size = v14.heap.size + 1 := World.size_alloc _ _
  generalize (v14.alloc (.cells #[.int .i64 zk, .int .i64 zn, .int .u64 zu, .string zs, .slice za4 zn4 zc4, .slice za5 zn5 zc5] 41)) = w11 at *
  rw [hs11] at hva hz11
  try rw [hs11]
  replace hns := Nd.st _ _ _ _ hg11 hns
  replace HG := Lib.hid (HG.out.trans hg11)
  clear hg11
  have hs12 := hz11
  have s3 : Ss [⟨#[97]⟩, ⟨#[97]⟩] (.slice (some ⟨w11.heap.size, 0, none⟩) 2 2) (w11.alloc (.cells #[.string ⟨#[97]⟩, .string ⟨#[97]⟩] 9)) := built_strs w11 [⟨#[97]⟩, ⟨#[97]⟩] (lenoks _ (by decide)) (by decide)
  have hg12 := (Grew.refl w11).alloc (.cells #[.string ⟨#[97]⟩, .string ⟨#[97]⟩] 9)
  have hz12 : (w11.alloc (.cells #[.string ⟨#[97]⟩, .string ⟨#[97]⟩] 9)).heap.size = w11.heap.size + 1 := World.size_alloc _ _
  generalize (w11.alloc (.cells #[.string ⟨#[97]⟩, .string ⟨#[97]⟩] 9)) = w12 at *
  rw [hs12] at s3 hz12
  try rw [hs12]
  replace hns := Nd.st _ _ _ _ hg12 hns
  replace hva := hg12.heap hva
  replace HG := Lib.hid (HG.out.trans hg12)
  clear hg12
  refine (num_any 5 w12).mono ?_
  rintro r v15 ⟨rfl, hgc⟩
  replace hns := Nd.st _ _ _ _ hgc hns
  replace hva := hgc.heap hva
  replace s3 := Ss.st _ _ _ _ hgc s3
  replace HG := Lib.hid (HG.out.trans hgc)
  clear hgc
  go_wp2_with fail
  refine (num_any 5 v15).mono ?_
  rintro r v16 ⟨rfl, hgc⟩
  replace hns := Nd.st _ _ _ _ hgc hns
  replace hva := hgc.heap hva
  replace s3 := Ss.st _ _ _ _ hgc s3
  replace HG := Lib.hid (HG.out.trans hgc)
  clear hgc
  go_wp2_with fail
  obtain ⟨g13, hs13⟩ : ∃ g, v16.heap.size = g := ⟨_, rfl⟩
  have r4 : Rn [(.mk 3 5 0 ⟨#[]⟩ [] []), (.mk 3 5 0 ⟨#[]⟩ [] [])] (.slice (some ⟨v16.heap.size, 0, none⟩) 2 2) (v16.alloc (.cells #[.int .i64 3, .int .i64 5, .int .u64 0, .string ⟨#[]⟩, .slice none 0 0, .slice none 0 0, .int .i64 3, .int .i64 5, .int .u64 0, .string ⟨#[]⟩, .slice none 0 0, .slice none 0 0] 41)) := built_nodes v16 [(.mk 3 5 0 ⟨#[]⟩ [] []), (.mk 3 5 0 ⟨#[]⟩ [] [])] [.agg #[.int .i64 3, .int .i64 5, .int .u64 0, .string ⟨#[]⟩, .slice none 0 0, .slice none 0 0], .agg #[.int .i64 3, .int .i64 5, .int .u64 0, .string ⟨#[]⟩, .slice none 0 0, .slice none 0 0]] (by intro x hx; simp only [List.mem_cons, List.not_mem_nil, or_false] at hx; rcases hx with rfl | rfl <;> exact ⟨_, _, _, _, _, _, _, _, _, _, rfl⟩) ⟨_, _, rfl, (num_nd 5 (by unfold i64ok; decide) _), ⟨_, _, rfl, (num_nd 5 (by unfold i64ok; decide) _), rfl⟩⟩ (by simp)
  have hg13 := (Grew.refl v16).alloc (.cells #[.int .i64 3, .int .i64 5, .int .u64 0, .string ⟨#[]⟩, .slice none 0 0, .slice none 0 0, .int .i64 3, .int .i64 5, .int .u64 0, .string ⟨#[]⟩, .slice none 0 0, .slice none 0 0] 41)
  have hz13 : (v16.alloc (.cells #[.int .i64 3, .int .i64 5, .int .u64 0, .string ⟨#[]⟩, .slice none 0 0, .slice none 0 0, .int .i64 3, .int .i64 5, .int .u64 0, .string ⟨#[]⟩, .slice none 0 0, .slice none 0 0] 41)).heap.size = v16.heap.size + 1 := World.size_alloc _ _
  generalize (v16.alloc (.cells #[.int .i64 3, .int .i64 5, .int .u64 0, .string ⟨#[]⟩, .slice none 0 0, .slice none 0 0, .int .i64 3, .int .i64 5, .int .u64 0, .string ⟨#[]⟩, .slice none 0 0, .slice none 0 0] 41)) = w13 at *
  rw [hs13] at r4 hz13
  try rw [hs13]
  replace hns := Nd.st _ _ _ _ hg13 hns
  replace hva := hg13.heap hva
  replace s3 := Ss.st _ _ _ _ hg13 s3
  replace HG := Lib.hid (HG.out.trans hg13)
  clear hg13
  have n4 := table_nd s3 r4
  refine (table_any _ _ _ _ _ _ w13).mono ?_
  rintro r v17 ⟨rfl, hgc⟩
  replace hns := Nd.st _ _ _ _ hgc hns
  replace hva := hgc.heap hva
  replace s3 := Ss.st _ _ _ _ hgc s3
  replace r4 := Rn.st _ _ _ _ hgc r4
  replace n4 := Nd.st _ _ _ _ hgc n4
  replace HG := Lib.hid (HG.out.trans hgc)
  clear hgc
  go_wp2_with fail
  refine (sorted_any (.mk 17 0 0 ⟨#[]⟩ [⟨#[97]⟩, ⟨#[97]⟩] [(.mk 3 5 0 ⟨#[]⟩ [] []), (.mk 3 5 0 ⟨#[]⟩ [] [])]) _ v17 n4 (by decide)).mono ?_
  intro r v18 hs
  obtain ⟨hgc, rfl⟩ : Grew v17 v18 ∧ r = .returned (.tuple #[zeroNode, .int .i64 71]) := by
    rcases hs.2 with ⟨_, e⟩ | ⟨e, _⟩
    · exact ⟨hs.1, by rw [e, w07_c9]⟩
    · rw [w07_c9] at e; cases e
  clear hs
  clear s3 r4 n4
  replace hns := Nd.st _ _ _ _ hgc hns
  replace hva := hgc.heap hva
  replace HG := Lib.hid (HG.out.trans hgc)
  clear hgc
  rw [show zeroNode = .agg #[.int .i64 0, .int .i64 0, .int .u64 0, .string ⟨#[]⟩, .slice none 0 0, .slice none 0 0] from rfl]
  go_wp2_with fail
  obtain ⟨g14, hs14⟩ : ∃ g, v18.heap.size = g := ⟨_, rfl⟩
  have hvz := heap_alloc_new v18 (.cells #[.int .i64 0, .int .i64 0, .int .u64 0, .string ⟨#[]⟩, .slice none 0 0, .slice none 0 0] 41)
  have hg14 := (Grew.refl v18).alloc (.cells #[.int .i64 0, .int .i64 0, .int .u64 0, .string ⟨#[]⟩, .slice none 0 0, .slice none 0 0] 41)
  have hz14 : (v18.alloc (.cells #[.int .i64 0, .int .i64 0, .int .u64 0, .string ⟨#[]⟩, .slice none 0 0, .slice none 0 0] 41)).heap.size = v18.heap.size + 1 := World.size_alloc _ _
  generalize (v18.alloc (.cells #[.int .i64 0, .int .i64 0, .int .u64 0, .string ⟨#[]⟩, .slice none 0 0, .slice none 0 0] 41)) = w14 at *
  rw [hs14] at hvz hz14
  try rw [hs14]
  replace hns := Nd.st _ _ _ _ hg14 hns
  replace hva := hg14.heap hva
  replace HG := Lib.hid (HG.out.trans hg14)
  clear hg14
  have hs15 := hz14
  have s5 : Ss [⟨#[97]⟩, ⟨#[98]⟩] (.slice (some ⟨w14.heap.size, 0, none⟩) 2 2) (w14.alloc (.cells #[.string ⟨#[97]⟩, .string ⟨#[98]⟩] 9)) := built_strs w14 [⟨#[97]⟩, ⟨#[98]⟩] (lenoks _ (by decide)) (by decide)
  have hg15 := (Grew.refl w14).alloc (.cells #[.string ⟨#[97]⟩, .string ⟨#[98]⟩] 9)
  have hz15 : (w14.alloc (.cells #[.string ⟨#[97]⟩, .string ⟨#[98]⟩] 9)).heap.size = w14.heap.size + 1 := World.size_alloc _ _
  generalize (w14.alloc (.cells #[.string ⟨#[97]⟩, .string ⟨#[98]⟩] 9)) = w15 at *
  rw [hs15] at s5 hz15
  try rw [hs15]
  replace hns := Nd.st _ _ _ _ hg15 hns
  replace hva := hg15.heap hva
  replace hvz := hg15.heap hvz
  replace HG := Lib.hid (HG.out.trans hg15)
  clear hg15
  have hs16 := hz15
  have s6 : Ss [⟨#[99]⟩, ⟨#[100]⟩] (.slice (some ⟨w15.heap.size, 0, none⟩) 2 2) (w15.alloc (.cells #[.string ⟨#[99]⟩, .string ⟨#[100]⟩] 9)) := built_strs w15 [⟨#[99]⟩, ⟨#[100]⟩] (lenoks _ (by decide)) (by decide)
  have hg16 := (Grew.refl w15).alloc (.cells #[.string ⟨#[99]⟩, .string ⟨#[100]⟩] 9)
  have hz16 : (w15.alloc (.cells #[.string ⟨#[99]⟩, .string ⟨#[100]⟩] 9)).heap.size = w15.heap.size + 1 := World.size_alloc _ _
  generalize (w15.alloc (.cells #[.string ⟨#[99]⟩, .string ⟨#[100]⟩] 9)) = w16 at *
  rw [hs16] at s6 hz16
  try rw [hs16]
  replace hns := Nd.st _ _ _ _ hg16 hns
  replace hva := hg16.heap hva
  replace hvz := hg16.heap hvz
  replace s5 := Ss.st _ _ _ _ hg16 s5
  replace HG := Lib.hid (HG.out.trans hg16)
  clear hg16
  refine (num_any 2 w16).mono ?_
  rintro r v19 ⟨rfl, hgc⟩
  replace hns := Nd.st _ _ _ _ hgc hns
  replace hva := hgc.heap hva
  replace hvz := hgc.heap hvz
  replace s5 := Ss.st _ _ _ _ hgc s5
  replace s6 := Ss.st _ _ _ _ hgc s6
  replace HG := Lib.hid (HG.out.trans hgc)
  clear hgc
  go_wp2_with fail
  refine (num_any 1 v19).mono ?_
  rintro r v20 ⟨rfl, hgc⟩
  replace hns := Nd.st _ _ _ _ hgc hns
  replace hva := hgc.heap hva
  replace hvz := hgc.heap hvz
  replace s5 := Ss.st _ _ _ _ hgc s5
  replace s6 := Ss.st _ _ _ _ hgc s6
  replace HG := Lib.hid (HG.out.trans hgc)
  clear hgc
  go_wp2_with fail
  obtain ⟨g17, hs17⟩ : ∃ g, v20.heap.size = g := ⟨_, rfl⟩
  have r5 : Rn [(.mk 3 2 0 ⟨#[]⟩ [] []), (.mk 3 1 0 ⟨#[]⟩ [] [])] (.slice (some ⟨v20.heap.size, 0, none⟩) 2 2) (v20.alloc (.cells #[.int .i64 3, .int .i64 2, .int .u64 0, .string ⟨#[]⟩, .slice none 0 0, .slice none 0 0, .int .i64 3, .int .i64 1, .int .u64 0, .string ⟨#[]⟩, .slice none 0 0, .slice none 0 0] 41)) := built_nodes v20 [(.mk 3 2 0 ⟨#[]⟩ [] []), (.mk 3 1 0 ⟨#[]⟩ [] [])] [.agg #[.int .i64 3, .int .i64 2, .int .u64 0, .string ⟨#[]⟩, .slice none 0 0, .slice none 0 0], .agg #[.int .i64 3, .int .i64 1, .int .u64 0, .string ⟨#[]⟩, .slice none 0 0, .slice none 0 0]] (by intro x hx; simp only [List.mem_cons, List.not_mem_nil, or_false] at hx; rcases hx with rfl | rfl <;> exact ⟨_, _, _, _, _, _, _, _, _, _, rfl⟩) ⟨_, _, rfl, (num_nd 2 (by unfold i64ok; decide) _), ⟨_, _, rfl, (num_nd 1 (by unfold i64ok; decide) _), rfl⟩⟩ (by simp)
  have hg17 := (Grew.refl v20).alloc (.cells #[.int .i64 3, .int .i64 2, .int .u64 0, .string ⟨#[]⟩, .slice none 0 0, .slice none 0 0, .int .i64 3, .int .i64 1, .int .u64 0, .string ⟨#[]⟩, .slice none 0 0, .slice none 0 0] 41)
  have hz17 : (v20.alloc (.cells #[.int .i64 3, .int .i64 2, .int .u64 0, .string ⟨#[]⟩, .slice none 0 0, .slice none 0 0, .int .i64 3, .int .i64 1, .int .u64 0, .string ⟨#[]⟩, .slice none 0 0, .slice none 0 0] 41)).heap.size = v20.heap.size + 1 := World.size_alloc _ _
  generalize (v20.alloc (.cells #[.int .i64 3, .int .i64 2, .int .u64 0, .string ⟨#[]⟩, .slice none 0 0, .slice none 0 0, .int .i64 3, .int .i64 1, .int .u64 0, .string ⟨#[]⟩, .slice none 0 0, .slice none 0 0] 41)) = w17 at *
  rw [hs17] at r5 hz17
  try rw [hs17]
  replace hns := Nd.st _ _ _ _ hg17 hns
  replace hva := hg17.heap hva
  replace hvz := hg17.heap hvz
  replace s5 := Ss.st _ _ _ _ hg17 s5
  replace s6 := Ss.st _ _ _ _ hg17 s6
  replace HG := Lib.hid (HG.out.trans hg17)
  clear hg17
  have n5 := table_nd s6 r5
  refine (table_any _ _ _ _ _ _ w17).mono ?_
  rintro r v21 ⟨rfl, hgc⟩
  replace hns := Nd.st _ _ _ _ hgc hns
  replace hva := hgc.heap hva
  replace hvz := hgc.heap hvz
  replace s5 := Ss.st _ _ _ _ hgc s5
  replace s6 := Ss.st _ _ _ _ hgc s6
  replace r5 := Rn.st _ _ _ _ hgc r5
  replace n5 := Nd.st _ _ _ _ hgc n5
  replace HG := Lib.hid (HG.out.trans hgc)
  clear hgc
  go_wp2_with fail
  refine (num_any 5 v21).mono ?_
  rintro r v22 ⟨rfl, hgc⟩
  replace hns := Nd.st _ _ _ _ hgc hns
  replace hva := hgc.heap hva
  replace hvz := hgc.heap hvz
  replace s5 := Ss.st _ _ _ _ hgc s5
  replace s6 := Ss.st _ _ _ _ hgc s6
  replace r5 := Rn.st _ _ _ _ hgc r5
  replace n5 := Nd.st _ _ _ _ hgc n5
  replace HG := Lib.hid (HG.out.trans hgc)
  clear hgc
  go_wp2_with fail
  obtain ⟨g18, hs18⟩ : ∃ g, v22.heap.size = g := ⟨_, rfl⟩
  have r6 : Rn [(.mk 17 0 0 ⟨#[]⟩ [⟨#[99]⟩, ⟨#[100]⟩] [(.mk 3 2 0 ⟨#[]⟩ [] []), (.mk 3 1 0 ⟨#[]⟩ [] [])]), (.mk 3 5 0 ⟨#[]⟩ [] [])] (.slice (some ⟨v22.heap.size, 0, none⟩) 2 2) (v22.alloc (.cells #[.int .i64 17, .int .i64 0, .int .u64 0, .string ⟨#[]⟩, .slice (some ⟨g14 + 1 + 1, 0, none⟩) 2 2, .slice (some ⟨g17, 0, none⟩) 2 2, .int .i64 3, .int .i64 5, .int .u64 0, .string ⟨#[]⟩, .slice none 0 0, .slice none 0 0] 41)) := built_nodes v22 [(.mk 17 0 0 ⟨#[]⟩ [⟨#[99]⟩, ⟨#[100]⟩] [(.mk 3 2 0 ⟨#[]⟩ [] []), (.mk 3 1 0 ⟨#[]⟩ [] [])]), (.mk 3 5 0 ⟨#[]⟩ [] [])] [.agg #[.int .i64 17, .int .i64 0, .int .u64 0, .string ⟨#[]⟩, .slice (some ⟨g14 + 1 + 1, 0, none⟩) 2 2, .slice (some ⟨g17, 0, none⟩) 2 2], .agg #[.int .i64 3, .int .i64 5, .int .u64 0, .string ⟨#[]⟩, .slice none 0 0, .slice none 0 0]] (by intro x hx; simp only [List.mem_cons, List.not_mem_nil, or_false] at hx; rcases hx with rfl | rfl <;> exact ⟨_, _, _, _, _, _, _, _, _, _, rfl⟩) ⟨_, _, rfl, n5, ⟨_, _, rfl, (num_nd 5 (by unfold i64ok; decide) _), rfl⟩⟩ (by simp)
  have hg18 := (Grew.refl v22).alloc (.cells #[.int .i64 17, .int .i64 0, .int .u64 0, .string ⟨#[]⟩, .slice (some ⟨g14 + 1 + 1, 0, none⟩) 2 2, .slice (some ⟨g17, 0, none⟩) 2 2, .int .i64 3, .int .i64 5, .int .u64 0, .string ⟨#[]⟩, .slice none 0 0, .slice none 0 0] 41)
  have hz18 : (v22.alloc (.cells #[.int .i64 17, .int .i64 0, .int .u64 0, .string ⟨#[]⟩, .slice (some ⟨g14 + 1 + 1, 0, none⟩) 2 2, .slice (some ⟨g17, 0, none⟩) 2 2, .int .i64 3, .int .i64 5, .int .u64 0, .string ⟨#[]⟩, .slice none 0 0, .slice none 0 0] 41)).heap.size = v22.heap.size + 1 := World.size_alloc _ _
  generalize (v22.alloc (.cells #[.int .i64 17, .int .i64 0, .int .u64 0, .string ⟨#[]⟩, .slice (some ⟨g14 + 1 + 1, 0, none⟩) 2 2, .slice (some ⟨g17, 0, none⟩) 2 2, .int .i64 3, .int .i64 5, .int .u64 0, .string ⟨#[]⟩, .slice none 0 0, .slice none 0 0] 41)) = w18 at *
  rw [hs18] at r6 hz18
  try rw [hs18]
  replace hns := Nd.st _ _ _ _ hg18 hns
  replace hva := hg18.heap hva
  replace hvz := hg18.heap hvz
  replace s5 := Ss.st _ _ _ _ hg18 s5
  replace s6 := Ss.st _ _ _ _ hg18 s6
  replace r5 := Rn.st _ _ _ _ hg18 r5
  replace n5 := Nd.st _ _ _ _ hg18 n5
  replace HG := Lib.hid (HG.out.trans hg18)
  clear hg18
  have n6 := table_nd s5 r6
  refine (table_any _ _ _ _ _ _ w18).mono ?_
  rintro r v23 ⟨rfl, hgc⟩
  replace hns := Nd.st _ _ _ _ hgc hns
  replace hva := hgc.heap hva
  replace hvz := hgc.heap hvz
  replace s5 := Ss.st _ _ _ _ hgc s5
  replace s6 := Ss.st _ _ _ _ hgc s6
  replace r5 := Rn.st _ _ _ _ hgc r5
  replace n5 := Nd.st _ _ _ _ hgc n5
  replace r6 := Rn.st _ _ _ _ hgc r6
  replace n6 := Nd.st _ _ _ _ hgc n6
  replace HG := Lib.hid (HG.out.trans hgc)
  clear hgc
  go_upto_region 11 with fail
  obtain ⟨g19, hs19⟩ : ∃ g, v23.heap.size = g := ⟨_, rfl⟩
  have r7 : Rn [(.mk 17 0 0 ⟨#[]⟩ [⟨#[97]⟩, ⟨#[98]⟩] [(.mk 17 0 0 ⟨#[]⟩ [⟨#[99]⟩, ⟨#[100]⟩] [(.mk 3 2 0 ⟨#[]⟩ [] []), (.mk 3 1 0 ⟨#[]⟩ [] [])]), (.mk 3 5 0 ⟨#[]⟩ [] [])])] (.slice (some ⟨v23.heap.size, 0, none⟩) 1 1) (v23.alloc (.cells #[.int .i64 17, .int .i64 0, .int .u64 0, .string ⟨#[]⟩, .slice (some ⟨g14 + 1, 0, none⟩) 2 2, .slice (some ⟨g18, 0, none⟩) 2 2] 41)) := built_nodes v23 [(.mk 17 0 0 ⟨#[]⟩ [⟨#[97]⟩, ⟨#[98]⟩] [(.mk 17 0 0 ⟨#[]⟩ [⟨#[99]⟩, ⟨#[100]⟩] [(.mk 3 2 0 ⟨#[]⟩ [] []), (.mk 3 1 0 ⟨#[]⟩ [] [])]), (.mk 3 5 0 ⟨#[]⟩ [] [])])] [.agg #[.int .i64 17, .int .i64 0, .int .u64 0, .string ⟨#[]⟩, .slice (some ⟨g14 + 1, 0, none⟩) 2 2, .slice (some ⟨g18, 0, none⟩) 2 2]] (by intro x hx; simp only [List.mem_cons, List.not_mem_nil, or_false] at hx; subst hx; exact ⟨_, _, _, _, _, _, _, _, _, _, rfl⟩) ⟨_, _, rfl, n6, rfl⟩ (by simp)
  have hg19 := (Grew.refl v23).alloc (.cells #[.int .i64 17, .int .i64 0, .int .u64 0, .string ⟨#[]⟩, .slice (some ⟨g14 + 1, 0, none⟩) 2 2, .slice (some ⟨g18, 0, none⟩) 2 2] 41)
  have hz19 : (v23.alloc (.cells #[.int .i64 17, .int .i64 0, .int .u64 0, .string ⟨#[]⟩, .slice (some ⟨g14 + 1, 0, none⟩) 2 2, .slice (some ⟨g18, 0, none⟩) 2 2] 41)).heap.size = v23.heap.size + 1 := World.size_alloc _ _
  generalize (v23.alloc (.cells #[.int .i64 17, .int .i64 0, .int .u64 0, .string ⟨#[]⟩, .slice (some ⟨g14 + 1, 0, none⟩) 2 2, .slice (some ⟨g18, 0, none⟩) 2 2] 41)) = w19 at *
  rw [hs19] at r7 hz19
  try rw [hs19]
  replace hns := Nd.st _ _ _ _ hg19 hns
  replace hva := hg19.heap hva
  replace hvz := hg19.heap hvz
  replace s5 := Ss.st _ _ _ _ hg19 s5
  replace s6 := Ss.st _ _ _ _ hg19 s6
  replace r5 := Rn.st _ _ _ _ hg19 r5
  replace n5 := Nd.st _ _ _ _ hg19 n5
  replace r6 := Rn.st _ _ _ _ hg19 r6
  replace n6 := Nd.st _ _ _ _ hg19 n6
  replace HG := Lib.hid (HG.out.trans hg19)
  clear hg19
  clear s5 s6 r5 r6 n5 n6 hvz
  have n7 := vec_nd r7
  have hs20 := hz19
  have hvw := heap_alloc_new w19 (.cells #[.int .i64 10, .int .i64 0, .int .u64 0, .string ⟨#[]⟩, .slice none 0 0, .slice (some ⟨g19, 0, none⟩) 1 1] 41)
  have hg20 := (Grew.refl w19).alloc (.cells #[.int .i64 10, .int .i64 0, .int .u64 0, .string ⟨#[]⟩, .slice none 0 0, .slice (some ⟨g19, 0, none⟩) 1 1] 41)
  have hz20 : (w19.alloc (.cells #[.int .i64 10, .int .i64 0, .int .u64 0, .string ⟨#[]⟩, .slice none 0 0, .slice (some ⟨g19, 0, none⟩) 1 1] 41)).heap.size = w19.heap.size + 1 := World.size_alloc _ _
  generalize (w19.alloc (.cells #[.int .i64 10, .int .i64 0, .int .u64 0, .string ⟨#[]⟩, .slice none 0 0, .slice (some ⟨g19, 0, none⟩) 1 1] 41)) = w20 at *
  rw [hs20] at hvw hz20
  try rw [hs20]
  replace hns := Nd.st _ _ _ _ hg20 hns
  replace hva := hg20.heap hva
  replace r7 := Rn.st _ _ _ _ hg20 r7
  replace n7 := Nd.st _ _ _ _ hg20 n7
  replace HG := Lib.hid (HG.out.trans hg20)
  clear hg20
  clear r7
  have a0 := row_cellT hva 0 _ rfl
  have a1 := row_cellT hva 1 _ rfl
  have a2 := row_cellT hva 2 _ rfl
  have a3 := row_cellT hva 3 _ rfl
  have a4 := row_cellT hva 4 _ rfl
  have a5 := row_cellT hva 5 _ rfl
  have b0 := row_cellT hvw 0 _ rfl
  have b1 := row_cellT hvw 1 _ rfl
  have b2 := row_cellT hvw 2 _ rfl
  have b3 := row_cellT hvw 3 _ rfl
  have b4 := row_cellT hvw 4 _ rfl
  have b5 := row_cellT hvw 5 _ rfl
  go_wp2_with fail
  refine (eqnode_any _ _ (Nat.le_refl _) _ _ _ _ hns n7).mono ?_
  rintro r v24 ⟨bq, rfl, hbq, hgc⟩
  obtain rfl : bq = true := hbq.2 w07_want
  clear hbq
  replace HG := Lib.hid (HG.out.trans hgc)
  clear hns n7 hva hvw a0 a1 a2 a3 a4 a5 b0 b1 b2 b3 b4 b5 hgc
  go_wp2_with fail
  go_ret
  exact ⟨rfl, HG.out⟩
end Go.Proofs.Ytnelhbkneokpiaa

/-
  How the laws' arguments read: strings, slices of strings; few. Conditions: the argument can be read as data.
-/
namespace Go.Proofs.Ytnelhbkneokpiaa
open Go Go.ChangeShapes Go.WideShapes Go.ChangeAt Go.RowKit Go.Joins Go.Deep
open Go.ChangeMaps (open_string shut_string)
set_option linter.unusedVariables false
set_option linter.unusedSimpArgs false

set_option maxRecDepth 100000 in
theorem open_strs1 {H : Type} {enc : TypeId × Value → H} {W : World} {base : Nat} {v : Value} {d : DataW H} {p : List MemPlace} (o : Value.okWide Try.prog W .any base 22 v) (k : DataW.Trod enc Try.prog W 0 (fun _ => true) true 22 v d p) : ∃ l, StrsAt W v l := by
  obtain ⟨fuel, hf⟩ := k
  obtain ⟨v', l, e, h⟩ := strs_of_trod hf
  obtain ⟨a, n, c, rfl⟩ := okWide_slice Try.underlying22 o
  simp [Value.cells] at e
  subst e
  exact ⟨l, h⟩
theorem lenok_short {s : ByteArray} {m : Nat} (hm : m ≤ 1000) : lenok (shortS s m).size := by unfold lenok; rw [shortS_size]; omega
set_option maxRecDepth 100000 in
theorem few07_any (v : Value) (l : List ByteArray) (w : World) (h : StrsAt w v l) :
    Calls Try.prog 11 #[v] w fun r w' => ∃ v', r = .returned v' ∧ StrsAt w' v' (textsS l 60 40) ∧ Grew w w' := by
  have HC := Lib.hid (texts_any 60 40 v l w h (by omega) (by omega))
  obtain ⟨a, c, rfl⟩ := h.form
  go_enter Try.func11, Try.ntmps11
  go_wp2_with fail
  refine HC.out.mono ?_
  rintro r w2 ⟨v', rfl, ho, hg⟩
  have hs := ho.strs (fun s hs => by
    simp only [textsS, List.mem_map] at hs
    obtain ⟨y, _, rfl⟩ := hs
    exact lenok_short (by omega))
  obtain ⟨a', c', rfl⟩ := hs.form
  clear ho
  go_wp2_with fail
  go_ret
  exact ⟨_, rfl, hs, hg⟩
theorem few_len (l : List ByteArray) : (textsS l 60 40).length ≤ 60 := by rw [textsS_length]; omega
end Go.Proofs.Ytnelhbkneokpiaa

/-
  Keys: 'risen', the keys in the order that Order gives. Conditions: the list can be read and has at most 4096 keys.
-/
namespace Go.Proofs.Ytnelhbkneokpiaa
open Go Go.ChangeShapes Go.WideShapes Go.ChangeAt Go.RowKit Go.Joins Go.Deep
set_option linter.unusedVariables false
set_option linter.unusedSimpArgs false

/-- The keys in increasing order. -/
def riseK (l : List ByteArray) : List ByteArray := (sortP (l.zip (List.range l.length))).map Prod.fst
theorem risePerm (l : List ByteArray) : (riseK l).Perm l := by
  unfold riseK
  refine ((sortP_perm _).map Prod.fst).trans ?_
  rw [List.map_fst_zip (by simp)]
theorem rise_sorted {l : List ByteArray} (h : l.Nodup) : (riseK l).Pairwise fun a b => ltS a b = true := by
  unfold riseK
  rw [List.pairwise_map]
  refine sortP_sorted _ ?_
  rw [List.map_fst_zip (by simp)]
  exact h
theorem ord_at {l : List ByteArray} (h : l.Nodup) : (ordK l).1 = ((sortP (l.zip (List.range l.length))).map fun p => (p.2 : Int)) ∧ (ordK l).2 = 0 := by
  unfold ordK; rw [if_pos h]; exact ⟨rfl, rfl⟩
theorem ord_get {l : List ByteArray} (h : l.Nodup) {i : Nat} (hi : i < l.length) : ∃ j : Nat, (ordK l).1[i]? = some (j : Int) ∧ j < l.length ∧ ∃ s, l[j]? = some s ∧ (riseK l)[i]? = some s := by
  have hlen : (sortP (l.zip (List.range l.length))).length = l.length := by rw [(sortP_perm _).length_eq]; simp
  have hq := List.getElem?_eq_getElem (l := sortP (l.zip (List.range l.length))) (i := i) (by omega)
  obtain ⟨p, hp⟩ : ∃ p, (sortP (l.zip (List.range l.length)))[i]? = some p := ⟨_, hq⟩
  have hm : p ∈ l.zip (List.range l.length) := (sortP_perm _).mem_iff.1 (List.mem_of_getElem? hp)
  obtain ⟨j, hj⟩ := List.mem_iff_getElem?.1 hm
  rw [List.getElem?_zip_eq_some] at hj
  have hjl : j < l.length := (List.getElem?_eq_some_iff.1 hj.1).1
  have e : p.2 = j := by
    have := hj.2
    rw [List.getElem?_range hjl] at this
    injection this with this
    exact this.symm
  refine ⟨j, ?_, hjl, p.1, hj.1, ?_⟩
  · rw [(ord_at h).1, List.getElem?_map, hp]; simp [e]
  · unfold riseK; rw [List.getElem?_map, hp]; rfl
theorem rise_len (l : List ByteArray) : (riseK l).length = l.length := (risePerm l).length_eq
/-- What risen hands back. -/
def RisenOut (w : World) (l : List ByteArray) (r : Ending) (w' : World) : Prop :=
  Grew w w' ∧ ((¬ l.Nodup ∧ r = .returned (.tuple #[.slice none 0 0, .bool false])) ∨ (l.Nodup ∧ ∃ v, r = .returned (.tuple #[v, .bool true]) ∧ StrsAt w' v (riseK l)))
set_option maxRecDepth 100000 in
set_option maxHeartbeats 4000000 in
theorem risen_any (l : List ByteArray) (hl : l.length ≤ 4096) (v : Value) (w : World) (h : StrsAt w v l) :
    Calls Try.prog 28 #[v] w fun r w' => RisenOut w l r w' := by
  have HS := Lib.hid h
  obtain ⟨a, c, rfl⟩ := h.form
  go_enter Try.func28, Try.ntmps28
  go_wp2_with fail
  refine (order_any l hl _ w HS.out).mono ?_
  intro r w1 hout
  by_cases hnd : l.Nodup
  · obtain ⟨hg1, v1, rfl, hr1⟩ := order_ord hl hout
    have HR1 := Lib.hid hr1
    have HG1 := Lib.hid hg1
    have HND := Lib.hid hnd
    obtain ⟨a1, c1, e1, _⟩ := hr1
    subst e1
    have hlen : (ordK l).1.length = l.length := by rw [(ord_at hnd).1, List.length_map, (sortP_perm _).length_eq]; simp
    rw [(ord_at hnd).2]
    rw [hlen]
    rw [hlen] at HR1
    have HLEN := Lib.hid hlen
    have hl' := hl
    clear hout hlen hg1 hnd h
    go_wp2_with fail
    go_loopw [6, 7] (fun r i wr => ∃ q : Nat, q ≤ l.length ∧ i = .int .i64 q ∧ Hid (Grew w1 wr ∧ OwnS wr w1.heap.size r ((riseK l).take q))) (fun _ i _ => l.length - (intOf i).toNat)
    case atStart => exact ⟨0, Nat.zero_le _, rfl, Grew.refl _, by simpa using OwnS.nil _ _⟩
    case round =>
      obtain ⟨q, hq, rfl, HW⟩ := hrel
      obtain ⟨a2, c2, e2, _⟩ := rows_form HW.out.2
      subst e2
      rw [List.length_take, rise_len, show min q l.length = q by omega]
      rw [List.length_take, rise_len, show min q l.length = q by omega] at HW
      have HO := Lib.hid HW.out.2
      have HG := Lib.hid HW.out.1
      have hrl := rise_len l
      have hrl' : ((riseK l).take q).length = q := by rw [List.length_take, hrl]; omega
      by_cases hlt : q < l.length
      · obtain ⟨j, ho1, hj, s, hls, hrs⟩ := ord_get HND.out hlt
        have hsn : (riseK l).take q ++ [s] = (riseK l).take (q + 1) := by rw [List.take_add_one, hrs]; rfl
        have HSN := Lib.hid hsn
        have hr1 := HR1.out
        have hs0 := HS.out
        rw [← HLEN.out] at hr1
        obtain ⟨_, _, ee, _, _, _, hc1⟩ := hr1
        cases ee
        obtain ⟨_, b1, o1, e3, hd1⟩ := hc1 q j ho1
        subst e3
        obtain ⟨_, _, ee, _, _, _, hc0⟩ := hs0
        cases ee
        obtain ⟨hz, b0, o0, e4, hd0⟩ := hc0 j s hls
        subst e4
        replace hd1 := HG.out.cell hd1
        replace hd0 := (HG1.out.trans HG.out).cell hd0
        have HZ := Lib.hid hz
        generalize (riseK l).take q = L at *
        subst hrl'
        have hqi : (L.length : Int) < l.length := by omega
        have hji : (j : Int) < l.length := by omega
        have HL40 : Hid (L.length ≤ 4096) := by show _ ≤ _; omega
        have HO2 : Hid (∀ o, OwnS (wr.alloc o) w1.heap.size (.slice a2 L.length c2) L) := fun o => HO.out.grew ((Grew.refl _).alloc o)
        clear hsn hz ho1 hls hrs HW hc1 hc0
        go_wp2_with (at_builtin; refine wpList_appendS rfl _ _ rfl w1.heap.size (.slice a2 L.length c2) L rfl (HO2.out _) _ [s] rfl (strs_new _ _ HZ.out) (by have := HL40.out; simp; omega) (Nat.le_trans HG.out.size (by simp)) ?_; intro v' w3 hown hgr hqq; obtain ⟨va2, vc2, rfl, _, _, _⟩ := rows_form hown; have HG3 := Lib.hid (And.intro hown (grew_row (HO2.out _) (HG.out.alloc _) hgr)); clear hown hgr hqq)
        go_roundw
        case rel =>
          refine ⟨L.length + 1, by omega, by go_num, ?_⟩
          show _ ∧ _
          rw [← HSN.out]
          have hh := HG3.out
          rw [List.length_append] at hh
          exact ⟨hh.2, hh.1⟩
        case measure => simp [intOf]; omega
      · have eq : q = l.length := by omega
        subst eq
        have hz : ∀ s ∈ riseK l, lenok s.size := fun s hs => by
          obtain ⟨_, _, _, _, _, _, hc0⟩ := HS.out
          obtain ⟨i, hi⟩ := List.mem_iff_getElem?.1 ((risePerm l).mem_iff.1 hs)
          exact (hc0 i s hi).1
        have hfin := HO.out
        rw [List.take_of_length_le (by omega)] at hfin
        have HF : Hid (RisenOut w l (.returned (.tuple #[.slice a2 l.length c2, .bool true])) wr) := ⟨HG1.out.trans HG.out, .inr ⟨HND.out, _, rfl, hfin.strs hz⟩⟩
        clear hfin hz hrl' HW
        go_wp2_with fail
        go_ret2
        exact HF.out
  · obtain ⟨hg1, ⟨_, rfl⟩ | ⟨hn, _⟩⟩ := hout
    · have HF : Hid (RisenOut w l (.returned (.tuple #[.slice none 0 0, .bool false])) w1) := ⟨hg1, .inl ⟨hnd, rfl⟩⟩
      go_wp2_with fail
      go_ret2
      exact HF.out
    · exact absurd hn hnd
end Go.Proofs.Ytnelhbkneokpiaa

/-
  Plain lemma, no program: as RegionT, but a fact need only stay under the operations that may still come.
-/
namespace Go.Proofs.Ytnelhbkneokpiaa
set_option linter.unusedSimpArgs false
set_option linter.unusedVariables false
open Go Go.RowKit
section
variable {P : Program} {ops : Array Oper}
theorem wpAny_of_factsD {m : Nat} {I : World → Prop} {T : Nat → World → World → Prop} {R : World → World → Prop} {D : Array (List Nat)} {Φ : Nat → (Nat → Value) → Value → World → Prop} {a0 : Act} {w0 : World} {Q : Exit → Act → World → Prop}
    (hRt : ∀ {a b c : World}, R a b → R b c → R a c) (hTR : ∀ i w w', T i w w' → R w w') (hTr : ∀ i w, T i w w) (hTI : ∀ i, i ≠ m → ∀ w w', T i w w' → I w → I w') (hcg : ∀ j y y' v w, (∀ k ∈ D.getD j [], y k = y' k) → Φ j y v w → Φ j y' v w) (hchk : factsOK ops D = true) (hst : ∀ i j, i ≠ j → i ∉ D.getD j [] → ∀ y v w w', T i w w' → Φ j y v w → Φ j y v w') (hrr : ∀ w, R w w)
    (hop : ∀ i o, ops[i]? = some o → opWordT P ops m I T R D Φ a0 w0 i o)
    (hfin : ∀ y w, R w0 w → (∀ j, j < ops.size → Φ j y (y j) w) → Q .normal (fillL y (pairsOf ops) a0) w) :
    ∀ (fuel : Nat) (listed : Array Bool) (a : Act) (w : World) (y : Nat → Value), ((List.range ops.size).filter fun j => !listed.getD j true).length ≤ fuel →
      InvFT ops m I R D Φ a0 w0 listed a w y → wpAny P .any ops Q fuel listed a w := by
  simp only [factsOK, Bool.and_eq_true, List.all_eq_true, List.mem_range] at hchk
  obtain ⟨hkeys, hrows⟩ := hchk
  -- nothing ready: all has been listed
  have hall : ∀ (listed : Array Bool), listed.size = ops.size → Region.ready .any ops listed = [] → ∀ j, j < ops.size → listed.getD j false = true := by
    intro listed hs hnil j
    induction j using Nat.strongRecOn with
    | ind j ih =>
      intro hj
      cases hl : listed.getD j false with
      | true => rfl
      | false =>
        exfalso
        have hmem : j ∈ Region.ready .any ops listed := by
          rw [mem_ready]
          refine ⟨by rw [listed_cases (by omega)]; exact hl, ops[j], Array.getElem?_eq_getElem hj, fun e he hb => ?_⟩
          have hrow := hrows j hj
          rw [Array.getElem?_eq_getElem hj] at hrow
          simp only [Bool.and_eq_true, List.all_eq_true, decide_eq_true_eq] at hrow
          have hlt := hrow.1 e.on (List.mem_map.2 ⟨e, List.mem_filter.2 ⟨by simpa using he, hb⟩, rfl⟩)
          exact ih e.on hlt (by omega)
        rw [hnil] at hmem
        cases hmem
  have hdone : ∀ (listed : Array Bool) (a : Act) (w : World) (y : Nat → Value), InvFT ops m I R D Φ a0 w0 listed a w y → Region.ready .any ops listed = [] → Q .normal a w := by
    intro listed a w y hI hnil
    rw [hI.act]
    exact hfin y w hI.grown (fun j hj => hI.facts j (hall listed hI.size hnil j hj))
  intro fuel
  induction fuel with
  | zero =>
    intro listed a w y hlen hI
    have hnil : Region.ready .any ops listed = [] := by
      have h0 : ((List.range ops.size).filter fun j => !listed.getD j true) = [] := List.length_eq_zero_iff.1 (by omega)
      refine List.eq_nil_iff_forall_not_mem.2 fun j hj => ?_
      have hj' := mem_ready.1 hj
      have : j ∈ ((List.range ops.size).filter fun j => !listed.getD j true) := by
        obtain ⟨hl, o, ho, _⟩ := hj'
        exact List.mem_filter.2 ⟨List.mem_range.2 (Array.getElem?_eq_some_iff.1 ho).1, by simp [hl]⟩
      rw [h0] at this
      cases this
    exact ⟨hnil, hdone listed a w y hI hnil⟩
  | succ fuel ih =>
    intro listed a w y hlen hI
    refine ⟨hdone listed a w y hI, fun i hi => ?_⟩
    obtain ⟨hun, o, ho, hedges⟩ := mem_ready.1 hi
    have hilt : i < ops.size := (Array.getElem?_eq_some_iff.1 ho).1
    have hunf : listed.getD i false = false := by rw [← listed_cases (by rw [hI.size]; exact hilt)]; exact hun
    have hrow := hrows i hilt
    rw [ho] at hrow
    simp only [Bool.and_eq_true, List.all_eq_true, decide_eq_true_eq, List.any_eq_true, Bool.or_eq_true, beq_iff_eq, List.contains_iff_mem] at hrow
    -- what i waits for has been listed
    have hD : ∀ k ∈ D.getD i [], listed.getD k false = true := by
      intro k hk
      obtain ⟨e, he, hek⟩ := hrow.2 k hk
      obtain ⟨ed, hed, rfl⟩ := List.mem_map.1 he
      obtain ⟨hed1, hed2⟩ := List.mem_filter.1 hed
      have hl := hedges ed (by simpa using hed1) hed2
      rcases hek with rfl | hek
      · exact hl
      · exact hI.closed _ hl k hek
    have hcan : fillL y (canonL ops D i) a0 = a := by
      rw [hI.act]
      refine fillL_filter y _ _ a0 hkeys ?_
      rintro ⟨d, j⟩ hq hp
      simp only [Bool.not_eq_false', Bool.or_eq_true, beq_iff_eq] at hp
      have hdst := mem_pairsOf.1 hq
      refine hI.open_ j d ?_ hdst
      rcases hp with rfl | hw
      · exact hun
      · have hjlt : j < listed.size := by
          rw [hI.size]
          rcases Nat.lt_or_ge j ops.size with h' | h'
          · exact h'
          · rw [Array.getElem?_eq_none h'] at hdst; cases hdst
        rw [listed_cases hjlt]
        cases hl : listed.getD j false with
        | false => rfl
        | true =>
          have := hI.closed j hl i (by simpa [waits] using hw)
          rw [hunf] at this
          cases this
    have hw := hop i o ho y w hI.grown (fun e => hI.pre (by rw [← e]; exact hunf)) (fun j hj => hI.facts j (hD j hj)) (fun a' w' => ∃ v, a' = a.put o.dst v ∧ T i w w' ∧ Φ i y v w')
    rw [hcan] at hw
    have hlen' : ((List.range ops.size).filter fun j => !(listed.setIfInBounds i true).getD j true).length ≤ fuel := by
      have : ((List.range ops.size).filter fun j => !(listed.setIfInBounds i true).getD j true).length < ((List.range ops.size).filter fun j => !listed.getD j true).length := by
        refine filter_lt _ i (fun j hj => ?_) (List.mem_range.2 hilt) (by rw [hun]; rfl) ?_
        · by_cases hij : i = j
          · subst hij
            have h2 : i < listed.size := by rw [hI.size]; exact hilt
            simp [h2] at hj
          · rw [getD_set_ne true hij] at hj; exact hj
        · have h2 : i < listed.size := by rw [hI.size]; exact hilt
          simp [h2]
      omega
    have hnext : ∀ v w', T i w w' → Φ i y v w' → wpAny P .any ops Q fuel (listed.setIfInBounds i true) (a.put o.dst v) w' := by
      intro v w' hr0 hφ
      have hr : R w w' := hTR _ _ _ hr0
      have hag : ∀ j, listed.getD j false = true ∨ j = i → ∀ k ∈ D.getD j [], y k = (if k = i then v else y k) := by
        intro j hj k hk
        have hkl : listed.getD k false = true := by
          rcases hj with hj | hj
          · exact hI.closed j hj k hk
          · rw [hj] at hk; exact hD k hk
        have hki : k ≠ i := fun e => by rw [e, hunf] at hkl; cases hkl
        rw [if_neg hki]
      have h2 : i < listed.size := by rw [hI.size]; exact hilt
      refine ih _ _ _ (fun k => if k = i then v else y k) hlen' ⟨by simp [hI.size], ?_, hRt hI.grown hr, fun hm => ?_, ?_, ?_, ?_⟩
      · cases hd : o.dst with
        | none =>
          rw [hI.act]
          show fillL y (pairsOf ops) a0 = _
          refine fillL_congr _ _ _ _ fun p hp => ?_
          have := mem_pairsOf.1 (show (p.1, p.2) ∈ pairsOf ops from hp)
          have hne : p.2 ≠ i := fun he => by rw [he, ho] at this; simp [hd] at this
          simp [hne]
        | some d =>
          rw [hI.act, fillL_set y i v _ a0 d hkeys (mem_pairsOf.2 (by simp [ho, hd]))]
      · by_cases him : i = m
        · subst him; simp [h2] at hm
        · rw [getD_set_ne false him] at hm
          exact hTI i him _ _ hr0 (hI.pre hm)
      · intro j hj
        by_cases hji : j = i
        · subst hji
          rw [if_pos rfl]
          exact hcg j y _ v w' (hag j (.inr rfl)) hφ
        · rw [if_neg hji]
          rw [getD_set_ne false (Ne.symm hji)] at hj
          exact hcg j y _ (y j) w' (hag j (.inl hj)) (hst i j (Ne.symm hji) (fun hm => by have := hI.closed j hj i hm; rw [hunf] at this; cases this) y _ _ _ hr0 (hI.facts j hj))
      · intro j d hj hdst
        have hji : j ≠ i := fun he => by subst he; simp [h2] at hj
        simp only [hji, if_false]
        rw [getD_set_ne true (Ne.symm hji)] at hj
        exact hI.open_ j d hj hdst
      · intro j hj k hk
        by_cases hji : j = i
        · subst hji; exact getD_set_true (hD k hk)
        · rw [getD_set_ne false (Ne.symm hji)] at hj
          exact getD_set_true (hI.closed j hj k hk)
    unfold wpOp
    simp only [ho]
    have hw2 := hw (fun v w' hr hφ => ⟨v, rfl, hr, hφ⟩)
    split at hw2
    · rename_i hwa
      rw [if_pos hwa]
      refine .inl ?_
      have h3 : o.wp P a w (wpAny P .any ops Q fuel (listed.setIfInBounds i true)) (fun _ _ _ => False) :=
        Oper.wp_mono (fun a' w' ⟨v, he, hr, hφ⟩ => by subst he; exact hnext v w' hr hφ) hw2
      exact wp_exit h3
    · rename_i hwa
      rw [if_neg hwa]
      obtain ⟨v, he, hr, hφ⟩ := hw2
      rw [he]
      exact hnext v w hr hφ
where
  wp_exit {o : Oper} {a : Act} {w : World} {K : Act → World → Prop} {Q : Exit → Act → World → Prop} (h : o.wp P a w K (fun _ _ _ => False)) : o.wp P a w K Q := by
    unfold Oper.wp at *
    generalize (execOp a.eval o).run P w = r at *
    cases r with
    | ok n w' =>
      cases n <;> simp only [Oper.upon] at h ⊢
      case enter f args =>
        refine Calls.mono h fun e w'' he => ?_
        cases e with
        | returned v => exact he
        | panicked c => exact he.elim
        | outgrown => obtain ⟨_, _, hq⟩ := he; exact hq.elim
      all_goals exact h
    | halt x w' => cases x <;> simp only [Oper.upon] at h

/-- **A region that draws its order, by facts.** -/
theorem wp_region_factsD {id : Nat} {a0 : Act} {w0 : World} {Q : Exit → Act → World → Prop} (R : World → World → Prop) (m : Nat) (I : World → Prop) (T : Nat → World → World → Prop) (D : Array (List Nat)) (Φ : Nat → (Nat → Value) → Value → World → Prop) (hm : P.follows .mixedOrders = true)
    (hRt : ∀ {a b c : World}, R a b → R b c → R a c) (hrr : ∀ w, R w w) (hTR : ∀ i w w', T i w w' → R w w') (hTr : ∀ i w, T i w w) (hTI : ∀ i, i ≠ m → ∀ w w', T i w w' → I w → I w') (hcg : ∀ j y y' v w, (∀ k ∈ D.getD j [], y k = y' k) → Φ j y v w → Φ j y' v w) (hI0 : I w0.drew) (hd : R w0 w0.drew) (hchk : factsOK ops D = true) (hst : ∀ i j, i ≠ j → i ∉ D.getD j [] → ∀ y v w w', T i w w' → Φ j y v w → Φ j y v w')
    (hop : allWords (opWordT P ops m I T R D Φ a0 w0) 0 ops.toList)
    (hfin : ∀ y w, R w0 w → (∀ j, j < ops.size → Φ j y (y j) w) → Q .normal (fillL y (pairsOf ops) a0) w) : (Code.region id ops true).wp P Q a0 w0 := by
  refine wp_region_any hm ?_
  refine wpAny_of_factsD (m := m) (I := I) (T := T) (R := R) (D := D) (Φ := Φ) (a0 := a0) (w0 := w0) hRt hTR hTr hTI hcg hchk hst hrr (fun i o ho => ?_) hfin ops.size _ a0 _ (fun j => match (ops[j]?).bind (·.dst) with | some d => a0.tmps.getD d undef | none => undef) ?_ ⟨by simp, ?_, hd, fun _ => hI0, ?_, ?_, ?_⟩
  · have := allWords_get _ 0 i o hop (by simpa using ho)
    simpa using this
  · exact Nat.le_trans (List.length_filter_le _ _) (by simp)
  · symm
    have : ∀ (L : List (Nat × Nat)), (∀ p ∈ L, (ops[p.2]?).bind (·.dst) = some p.1) → fillL (fun j => match (ops[j]?).bind (·.dst) with | some d => a0.tmps.getD d undef | none => undef) L a0 = a0 := by
      intro L
      induction L with
      | nil => intro _; rfl
      | cons p L ih =>
        intro h
        obtain ⟨d, j⟩ := p
        have hd := h (d, j) (by simp)
        simp only at hd
        show fillL _ L (a0.put (some d) _) = a0
        simp only [hd]
        rw [put_self]
        exact ih (fun p hp => h p (by simp [hp]))
    exact this _ (fun p hp => mem_pairsOf.1 hp)
  · intro j hj
    have h : (Array.replicate ops.size false).getD j false = false := by
      simp [Array.getD]
    rw [h] at hj; cases hj
  · intro j d _ hdst
    simp only [hdst]
    exact put_self a0 d
  · intro j hj
    have h : (Array.replicate ops.size false).getD j false = false := by
      simp [Array.getD]
    rw [h] at hj; cases hj


def stLD (D : List (List Nat)) (T : Nat → World → World → Prop) : Nat → List ((Nat → Value) → Value → World → Prop) → Prop
  | _, [] => True
  | j, φ :: r => (∀ i, i ≠ j → (D.getD j []).contains i = false → ∀ y v w w', T i w w' → φ y v w → φ y v w') ∧ stLD D T (j + 1) r
theorem stLD_get {D : List (List Nat)} {T : Nat → World → World → Prop} : ∀ (Φ : List ((Nat → Value) → Value → World → Prop)) (j : Nat), stLD D T j Φ → ∀ k φ, Φ[k]? = some φ → ∀ i, i ≠ j + k → (D.getD (j + k) []).contains i = false → ∀ y v w w', T i w w' → φ y v w → φ y v w'
  | φ :: r, j, h, 0, ψ, hk => by
    simp at hk
    subst hk
    exact h.1
  | φ :: r, j, h, k + 1, ψ, hk => by
    intro i hi hd y v w w' hr
    exact stLD_get r (j + 1) h.2 k ψ (by simpa using hk) i (by omega) (by rw [show j + 1 + k = j + (k + 1) by omega]; exact hd) y v w w' hr
/-- **A region that draws its order, by facts, the tables written out.** -/
theorem wp_region_tablesD {id : Nat} {a0 : Act} {w0 : World} {Q : Exit → Act → World → Prop} (R : World → World → Prop) (m : Nat) (I : World → Prop) (T : Nat → World → World → Prop) (D : List (List Nat)) (C : List (List (Nat × Nat))) (F : List (Nat × Nat)) (Φ : List ((Nat → Value) → Value → World → Prop)) (hm : P.follows .mixedOrders = true)
    (hRt : ∀ {a b c : World}, R a b → R b c → R a c) (hrr : ∀ w, R w w) (hTR : ∀ i w w', T i w w' → R w w') (hTr : ∀ i w, T i w w) (hTI : ∀ i, i ≠ m → ∀ w w', T i w w' → I w → I w') (hI0 : I w0.drew) (hd : R w0 w0.drew) (hchk : tablesOK ops D C F = true) (hst : stLD D T 0 Φ) (hcg : cgLT D 0 Φ)
    (hop : allWT P ops m I T R Φ a0 w0 0 ops.toList D C)
    (hlen : Φ.length = ops.size)
    (hfin : ∀ y w, R w0 w → factsT y w 0 Φ → Q .normal (fillL y F a0) w) : (Code.region id ops true).wp P Q a0 w0 := by
  simp only [tablesOK, Bool.and_eq_true, decide_eq_true_eq, List.all_eq_true, List.mem_range] at hchk
  obtain ⟨⟨h1, h2⟩, h3⟩ := hchk
  subst h2
  refine wp_region_factsD R m I T D.toArray (fun j => Φ.getD j (fun _ _ _ => True)) hm hRt hrr hTR hTr hTI ?_ hI0 hd h1 ?_ (allW_wordsT D C h3 ops.toList 0 D C (by simp) (by simp) (by simp) hop) (fun y w hr hj => hfin y w hr (factsT_of Φ 0 (by simp) (fun j h => hj j (by rw [← hlen]; simpa using h))))
  · intro j y y' v w hk hφ
    rcases Nat.lt_or_ge j Φ.length with hj | hj
    · have e : Φ.getD j (fun _ _ _ => True) = Φ[j] := by simp [List.getD_eq_getElem?_getD, hj]
      rw [e] at hφ ⊢
      refine cgLT_get Φ 0 hcg j _ (List.getElem?_eq_getElem hj) y y' v w ?_ hφ
      intro q hq
      refine hk q ?_
      rw [Nat.zero_add] at hq
      simpa [Array.getD_eq_getD_getElem?, List.getD_eq_getElem?_getD] using hq
    · have e : Φ.getD j (fun _ _ _ => True) = fun _ _ _ => True := by simp [List.getD_eq_getElem?_getD, hj]
      rw [e]; trivial
  · intro i j hij hnd y v w w' hr hφ
    rcases Nat.lt_or_ge j Φ.length with hj | hj
    · have e : Φ.getD j (fun _ _ _ => True) = Φ[j] := by simp [List.getD_eq_getElem?_getD, hj]
      rw [e] at hφ ⊢
      refine stLD_get Φ 0 hst j _ (List.getElem?_eq_getElem hj) i (by rw [Nat.zero_add]; exact hij) ?_ y v w w' hr hφ
      rw [Nat.zero_add]
      cases hc : (D.getD j []).contains i with
      | false => rfl
      | true =>
        refine absurd ?_ hnd
        have : i ∈ D.getD j [] := by simpa using hc
        simpa [Array.getD_eq_getD_getElem?, List.getD_eq_getElem?_getD] using this
    · have e : Φ.getD j (fun _ _ _ => True) = fun _ _ _ => True := by simp [List.getD_eq_getElem?_getD, hj]
      rw [e]; trivial

end
end Go.Proofs.Ytnelhbkneokpiaa

/-
  Keys: the reference's Order, by insertion: the plain part, and an append that leaves what lies ahead of it. Conditions: the list has at most 4096 keys.
-/
namespace Go.Proofs.Ytnelhbkneokpiaa
open Go Go.ChangeShapes Go.WideShapes Go.ChangeAt Go.RowKit Go.Joins Go.Deep
set_option linter.unusedVariables false
set_option linter.unusedSimpArgs false

/-- The key at an index. -/
def keyAt (l : List ByteArray) (i : Nat) : ByteArray := l.getD i ByteArray.empty
theorem keyAt_get {l : List ByteArray} {i : Nat} {s : ByteArray} (h : l[i]? = some s) : keyAt l i = s := by simp [keyAt, List.getD_eq_getElem?_getD, h]
/-- The first i indices, in the order of their keys. -/
def OrdI (l : List ByteArray) (i : Nat) (X : List Nat) : Prop := X.Perm (List.range i) ∧ X.Pairwise fun a b => ltS (keyAt l a) (keyAt l b) = true
theorem OrdI.lt {l : List ByteArray} {i : Nat} {X : List Nat} (h : OrdI l i X) {x : Nat} (hx : x ∈ X) : x < i := by
  have := h.1.mem_iff.1 hx; simpa using this
theorem OrdI.len {l : List ByteArray} {i : Nat} {X : List Nat} (h : OrdI l i X) : X.length = i := by rw [h.1.length_eq]; simp
theorem OrdI.insert {l : List ByteArray} {i : Nat} {X : List Nat} (h : OrdI l i X) (at_ : Nat) (ha : at_ ≤ X.length) (h1 : ∀ x ∈ X.take at_, ltS (keyAt l x) (keyAt l i) = true) (h2 : ∀ x, X[at_]? = some x → ltS (keyAt l x) (keyAt l i) = false ∧ ¬ keyAt l x = keyAt l i) :
    OrdI l (i + 1) (X.take at_ ++ [i] ++ X.drop at_) := by
  obtain ⟨hp, hs⟩ := h
  constructor
  · rw [List.range_succ]
    have e : (X.take at_ ++ [i] ++ X.drop at_).Perm (i :: (X.take at_ ++ X.drop at_)) := by
      rw [List.append_assoc]
      exact List.perm_middle
    refine e.trans ?_
    rw [List.take_append_drop]
    refine (List.Perm.cons i hp).trans ?_
    have := List.perm_append_comm (l₁ := List.range i) (l₂ := [i])
    exact this.symm
  · rw [List.append_assoc, List.pairwise_append]
    have hd : ∀ y ∈ X.drop at_, ltS (keyAt l i) (keyAt l y) = true := by
      intro y hy
      cases hdr : X.drop at_ with
      | nil => rw [hdr] at hy; cases hy
      | cons z r =>
        have hz : X[at_]? = some z := by
          have := congrArg (fun q => q[0]?) hdr
          simpa using this
        obtain ⟨q1, q2⟩ := h2 z hz
        have hiz : ltS (keyAt l i) (keyAt l z) = true := by
          cases hc : ltS (keyAt l i) (keyAt l z) with
          | true => rfl
          | false => exact absurd (ltS_total q1 hc) q2
        rw [hdr] at hy
        rcases List.mem_cons.1 hy with rfl | hy
        · exact hiz
        · have hsd : (X.drop at_).Pairwise fun a b => ltS (keyAt l a) (keyAt l b) = true := hs.sublist (List.drop_sublist _ _)
          rw [hdr] at hsd
          exact ltS_trans hiz (List.rel_of_pairwise_cons hsd hy)
    refine ⟨hs.sublist (List.take_sublist _ _), ?_, ?_⟩
    · simp only [List.singleton_append, List.pairwise_cons]
      exact ⟨hd, hs.sublist (List.drop_sublist _ _)⟩
    · intro x hx y hy
      rcases List.mem_append.1 hy with hy | hy
      · simp at hy; subst hy; exact h1 x hx
      · exact ltS_trans (h1 x hx) (hd y hy)
theorem OrdI.done {l : List ByteArray} {X : List Nat} (h : OrdI l l.length X) : l.Nodup ∧ ordK l = (X.map fun (x : Nat) => (x : Int), 0) := by
  obtain ⟨hp, hs⟩ := h
  have hlt : ∀ x ∈ X, x < l.length := fun x hx => by have := hp.mem_iff.1 hx; simpa using this
  have hmap : (X.map fun x => keyAt l x).Perm l := by
    refine (hp.map _).trans ?_
    have : (List.range l.length).map (fun x => keyAt l x) = l := by
      apply List.ext_getElem (by simp)
      intro i h1 h2
      simp [keyAt, List.getD_eq_getElem?_getD, h2]
    rw [this]
  have hnd : l.Nodup := by
    refine hmap.nodup_iff.1 ?_
    refine List.Pairwise.map _ (fun a b hab e => ?_) hs
    rw [e, ltS_irrefl] at hab; cases hab
  refine ⟨hnd, ?_⟩
  unfold ordK
  rw [if_pos hnd]
  have hz : (X.map fun x => (keyAt l x, x)).Perm (l.zip (List.range l.length)) := by
    refine (hp.map _).trans ?_
    have : (List.range l.length).map (fun x => (keyAt l x, x)) = l.zip (List.range l.length) := by
      apply List.ext_getElem (by simp)
      intro i h1 h2
      have hi : i < l.length := by simpa using h1
      simp [keyAt, List.getD_eq_getElem?_getD, hi]
    rw [this]
  have hstr : (X.map fun x => (keyAt l x, x)).Pairwise (fun a b => ltS a.1 b.1 = true) := List.Pairwise.map _ (fun a b h => h) hs
  have hsr := sortP_sorted (l.zip (List.range l.length)) (by rw [List.map_fst_zip (by simp)]; exact hnd)
  have e := eq_of_strict _ _ (hz.trans (sortP_perm _).symm) hstr hsr
  rw [← e, List.map_map]
  rfl

/-! ### appends to rows of ints -/
def OwnI (w : World) (B : Nat) (v : Value) (L : List Int) : Prop := w.ownsRow B 3 1 v L.length (L.map (Value.int .i64))
theorem OwnI.nil (w : World) (B : Nat) : OwnI w B (.slice none 0 0) [] := World.ownsRow_nil _ _ _ _
theorem OwnI.row {w : World} {B : Nat} {v : Value} {L : List Int} (h : OwnI w B v L) : RowI w v L := by
  obtain ⟨a, c, rfl, h1, h2, h3⟩ := rows_form h
  refine ⟨a, c, rfl, h1, h2, h3, fun i x hx => ⟨trivial, ?_⟩⟩
  rcases h.2 with ⟨e, _⟩ | ⟨g, cap, cur, e, _, hg, _⟩
  · have hl : L.length = 0 := by injection e
    have : L = [] := List.eq_nil_of_length_eq_zero hl
    subst this; simp at hx
  · have ea : a = some ⟨g, 0, none⟩ := by injection e
    subst ea
    refine ⟨g, 0, rfl, ?_⟩
    have := World.ownsRow.cells h (g := g) rfl i (.int .i64 x) (by simp [hx])
    rw [add0] at this
    simpa using this
/-- Blocks below B stay; of every row of ints the first n cells stay. -/
def KeepN (B n : Nat) (w w' : World) : Prop :=
  Below B w w' ∧ ∀ (g : Nat) (cur : Array Value), w.heap[g]? = some (Obj.cells cur 3 (0, 0)) → ∃ cur' : Array Value, w'.heap[g]? = some (Obj.cells cur' 3 (0, 0)) ∧ cur'.size = cur.size ∧ cur'.toList.take n = cur.toList.take n
theorem KeepN.of_grew {B n : Nat} {w w' : World} (h : Grew w w') (hB : B ≤ w.heap.size) : KeepN B n w w' := ⟨Below.mono h hB, fun g cur hg => ⟨cur, h.heap hg, rfl, rfl⟩⟩
theorem OwnI.keep {B n : Nat} {w w' : World} {v : Value} {L : List Int} (h : OwnI w B v L) (hk : KeepN B n w w') (hn : L.length ≤ n) : OwnI w' B v L := by
  refine ⟨h.1, ?_⟩
  rcases h.2 with h2 | ⟨g, cap, cur, h1, hB, h2, h3, h4, h5, h6⟩
  · exact .inl h2
  · obtain ⟨cur', q1, q2, q3⟩ := hk.2 g cur h2
    refine .inr ⟨g, cap, cur', h1, hB, q1, h3, h4, by rw [q2]; exact h5, ?_⟩
    have e : cur'.toList.take (L.length * 1) = (cur'.toList.take n).take (L.length * 1) := by rw [List.take_take]; congr 1; omega
    have e2 : cur.toList.take (L.length * 1) = (cur.toList.take n).take (L.length * 1) := by rw [List.take_take]; congr 1; omega
    rw [e, q3, ← e2]; exact h6
theorem int_parts : ∃ i0, Try.prog.info? 3 = some i0 ∧ i0.zero = some (.int .i64 0) ∧ i0.size = 1 ∧ i0.bytes = 8 := by
  have h := Try.infoIntK
  cases hi : Try.prog.info? 3 with
  | none => rw [hi] at h; cases h
  | some i =>
    rw [hi] at h
    simp at h
    exact ⟨i, rfl, h.1, h.2.1, h.2.2⟩
set_option maxRecDepth 100000 in
/-- An append: what lies ahead of it stays. -/
theorem run_append_keep (w : World) (ty : TypeId) (B : Nat) (v : Value) (L : List Int) (hown : OwnI w B v L) (sv : Value) (L2 : List Int) (hsv : RowI w sv L2) (hlen : L.length + L2.length ≤ 16384) (hB : B ≤ w.heap.size) (hv0 : L.length = 0 → v = .slice none 0 0) :
    ∃ v' w', (Builtin.append_ #[25, 25] ty #[v, sv]).run Try.prog w = .ok v' w' ∧ OwnI w' B v' (L ++ L2) ∧ KeepN B (max L.length 1) w w' ∧ ((L ++ L2).length = 0 → v' = .slice none 0 0) ∧ (v = .slice none 0 0 → Grew w w') := by
  obtain ⟨i0, hi, hz0, hz1, hz2⟩ := int_parts
  obtain ⟨sa, c, rfl, hlc, hcm, hnil, hcell⟩ := hsv
  have ho0 := hown
  unfold OwnI at hown
  cases sa with
  | none =>
    have hc := hnil rfl
    subst hc
    have h0 : L2 = [] := List.eq_nil_of_length_eq_zero (by omega)
    subst h0
    have hrun := run_append_owned_none (P := Try.prog) (w := w) B 25 ty 3 i0 1 Try.underlying25 hi v L.length _ hown
    exact ⟨v, w, hrun, by rw [List.append_nil]; exact ho0, KeepN.of_grew (Grew.refl w) hB, fun h => hv0 (by simpa using h), fun _ => Grew.refl w⟩
  | some ad =>
    have hnews : ∀ j u, (L2.map (Value.int .i64))[j]? = some u → w.cell? (ad.add j) = some u := by
      intro j u hj
      rw [List.getElem?_map] at hj
      cases hq : L2[j]? with
      | none => rw [hq] at hj; cases hj
      | some x =>
        rw [hq] at hj
        obtain ⟨_, b, off, e, hc⟩ := hcell j x hq
        cases e
        simp at hj
        subst hj
        rw [add_off _ b off j rfl]
        exact hc
    have h1 : ∀ u ∈ L2.map (Value.int .i64), u.oneCell' = true := by
      intro u hu
      obtain ⟨x, _, rfl⟩ := List.mem_map.1 hu
      rfl
    have hl : (L2.map (Value.int .i64)).length = L2.length * 1 := by simp
    obtain ⟨v', w', hr, ho, hgr, hvn⟩ := run_append_own_wide (P := Try.prog) w B 25 ty 3 i0 (.int .i64 0) 1 8 Try.underlying25 hi hz0 hz1 hz2 rfl (by omega) v L.length _ hown ad L2.length c _ hl hnews h1 (by unfold maxLen; omega) (by omega) hB
    have hown' : OwnI w' B v' (L ++ L2) := by
      unfold OwnI
      rw [List.length_append, List.map_append]; exact ho
    refine ⟨v', w', hr, hown', ?_, fun h => hvn.2 ⟨hv0 (by rw [List.length_append] at h; omega), by rw [List.length_append] at h; omega⟩, fun e => by subst e; exact ⟨hgr.os, hgr.tape, hgr.output, hgr.size, fun k hk => hgr.block k hk (by simp [Value.ownBlock])⟩⟩
    rcases hown.2 with ⟨rfl, _⟩ | ⟨g, cap, cur, rfl, hbg, hg, hnc, hcm', hcs, htake⟩
    · exact KeepN.of_grew ⟨hgr.os, hgr.tape, hgr.output, hgr.size, fun k hk => hgr.block k hk (by simp [Value.ownBlock])⟩ hB
    · by_cases hroom : L.length + L2.length ≤ cap
      · obtain ⟨w2, hr2, ho2, hg2⟩ := run_append_own_spare (P := Try.prog) w B 25 ty 3 i0 1 Try.underlying25 hi hz1 g L.length cap _ hown ad L2.length c _ hl hnews h1 hroom
        rw [hr] at hr2
        cases hr2
        refine ⟨Below.grown (Below.refl _ _) hg2 hB (fun k e => by cases e; exact hbg), fun q cq hq => ?_⟩
        by_cases e : q = g
        · subst e
          rw [hg] at hq
          cases hq
          rcases ho2.2 with ⟨e, _⟩ | ⟨g', cap', cur', e, _, hgg, _, _, hcs', ht'⟩
          · cases e
          · cases e
            refine ⟨cur', hgg, by rw [hcs, hcs'], ?_⟩
            by_cases hL0 : L.length = 0
            · have := hv0 hL0; cases this
            · rw [show max L.length 1 = L.length by omega]
              have e1 : cur'.toList.take L.length = (cur'.toList.take ((L.length + L2.length) * 1)).take L.length := by rw [List.take_take]; congr 1; omega
              rw [e1, ht', List.take_left' (by simp)]
              rw [← htake]; congr 1; omega
        · exact ⟨cq, (hg2.block q (Array.getElem?_eq_some_iff.1 hq).1 (by intro e'; injection e' with e'; exact e e')).trans hq, rfl, rfl⟩
      · have holds : ∀ j u, (L.map (Value.int .i64))[j]? = some u → w.cell? ((⟨g, 0, none⟩ : Addr).add j) = some u := World.ownsRow.cells hown (g := g) rfl
        have hr2 := run_append_grow (P := Try.prog) w 25 ty 3 i0 (.int .i64 0) Try.underlying25 hi hz0 ⟨g, 0, none⟩ L.length cap _ (by rw [hz1]; simp) holds ad L2.length c _ (by rw [hz1]; exact hl) hnews (by omega) (by omega) (by rw [hz2]; exact growslice_fits_wide (by omega) (by omega))
        rw [hr] at hr2
        cases hr2
        exact KeepN.of_grew (((Grew.refl w).drew).alloc _) hB
/-- The steps of the statement that inserts an index. -/
def stepA (B at_ : Nat) (i : Nat) (w w' : World) : Prop := Below B w w' ∧ ((i = 7 ∧ KeepN B (max at_ 1) w w') ∨ (i = 11 ∧ KeepN B (at_ + 1) w w') ∨ Grew w w')
theorem stepA.below {B at_ : Nat} (i : Nat) (w w' : World) (h : stepA B at_ i w w') : Below B w w' := h.1
theorem stepA.refl {B at_ : Nat} (i : Nat) (w : World) : stepA B at_ i w w := ⟨Below.refl _ _, .inr (.inr (Grew.refl w))⟩
theorem stepA.grew {B at_ i : Nat} {w w' : World} (hB : B ≤ w.heap.size) (h : Grew w w') : stepA B at_ i w w' := ⟨Below.mono h hB, .inr (.inr h)⟩
theorem OwnI.step {B at_ i : Nat} {w w' : World} {v : Value} {L : List Int} (h : OwnI w B v L) (ht : stepA B at_ i w w') (h7 : i = 7 → L.length ≤ max at_ 1) (h11 : i = 11 → L.length ≤ at_ + 1) : OwnI w' B v L := by
  rcases ht.2 with ⟨e, hk⟩ | ⟨e, hk⟩ | hg
  · exact h.keep hk (h7 e)
  · exact h.keep hk (h11 e)
  · exact rows_grew h hg
theorem RowI.take {w : World} {a : Option Addr} {c : Nat} {L : List Int} (h : RowI w (.slice a L.length c) L) {k : Nat} (hk : k ≤ L.length) : RowI w (.slice a k c) (L.take k) := by
  obtain ⟨a', c', e, h1, h2, h3, h4⟩ := h
  cases e
  refine ⟨a, c, by rw [List.length_take]; congr 1; omega, by rw [List.length_take]; omega, h2, h3, fun i x hx => ?_⟩
  have hi : i < k := by have := (List.getElem?_eq_some_iff.1 hx).1; rw [List.length_take] at this; omega
  rw [List.getElem?_take, if_pos hi] at hx
  exact h4 i x hx
theorem RowI.drop {w : World} {g c : Nat} {L : List Int} (h : RowI w (.slice (some ⟨g, 0, none⟩) L.length c) L) {k : Nat} (hk : k ≤ L.length) : RowI w (.slice (some ⟨g, k, none⟩) (L.length - k) (c - k)) (L.drop k) := by
  obtain ⟨a', c', e, h1, h2, h3, h4⟩ := h
  cases e
  refine ⟨_, c - k, by rw [List.length_drop], by rw [List.length_drop]; omega, by unfold lenok at *; omega, fun h => (by cases h), fun i x hx => ?_⟩
  rw [List.getElem?_drop] at hx
  obtain ⟨_, b, off, e, hc⟩ := h4 (k + i) x hx
  cases e
  exact ⟨trivial, g, k, rfl, by rw [show k + i = 0 + (k + i) by omega]; exact hc⟩
theorem RowI.drop' {w : World} {g c : Nat} {L : List Int} (h : RowI w (.slice (some ⟨g, 0, none⟩) L.length c) L) {k : Nat} (hk : k ≤ L.length) : RowI w (.slice (if c = k then some ⟨g, 0, none⟩ else some ⟨g, k, none⟩) (L.length - k) (c - k)) (L.drop k) := by
  by_cases e : c = k
  · rw [if_pos e]
    have hc : L.length ≤ c := by obtain ⟨_, _, e', h1, _⟩ := h; cases e'; exact h1
    have hl : L.drop k = [] := List.drop_eq_nil_of_le (by omega)
    rw [hl]
    have h0 : L.length - k = 0 := by omega
    rw [h0]
    exact ⟨some ⟨g, 0, none⟩, c - k, rfl, Nat.zero_le _, by unfold lenok; omega, fun h => (by cases h), by simp⟩
  · rw [if_neg e]; exact h.drop hk
theorem RowI.below {w w' : World} {v : Value} {L : List Int} (h : RowI w v L) (hb : Below w.heap.size w w') : RowI w' v L := RowI.grew h hb
end Go.Proofs.Ytnelhbkneokpiaa

/-
  Keys: the reference's Order. Conditions: the list has at most 4096 keys.
-/
namespace Go.Proofs.Ytnelhbkneokpiaa
open Go Go.ChangeShapes Go.WideShapes Go.ChangeAt Go.RowKit Go.Joins Go.Deep
set_option linter.unusedVariables false
set_option linter.unusedSimpArgs false

theorem wp_append_keep {o : Oper} {a : Act} {w : World} {K : Act → World → Prop} {Q : Exit → Act → World → Prop} (s x : Operand) (ho : o.op = .call { callee := .builtin .append, args := #[s, x], argTypes := #[25, 25] })
    (B : Nat) (v : Value) (L : List Int) (hs : a.eval s = v) (hown : OwnI w B v L) (sv : Value) (L2 : List Int) (hx : a.eval x = sv) (hsv : RowI w sv L2) (hlen : L.length + L2.length ≤ 16384) (hB : B ≤ w.heap.size) (hv0 : L.length = 0 → v = .slice none 0 0)
    (h : ∀ v' w', OwnI w' B v' (L ++ L2) → KeepN B (max L.length 1) w w' → (((L ++ L2).length = 0 → v' = .slice none 0 0) ∧ (v = .slice none 0 0 → Grew w w')) → K (a.put o.dst v') w') : o.wp Try.prog a w K Q := by
  obtain ⟨v', w', hr, h2, h3, h4, h5⟩ := run_append_keep w o.type B v L hown sv L2 hsv hlen hB hv0
  unfold Oper.wp execOp
  simp only [ho, resolve, invoke, builtin, Sem.run_bind, Sem.run_pure, Result.andThen_ok, List.map_toArray, List.map_cons, List.map_nil, hs, hx, hr]
  exact h v' w' h2 h3 ⟨h4, h5⟩
theorem RowI.at {w : World} {a : Option Addr} {n c : Nat} {L : List Int} (h : RowI w (.slice a n c) L) {i : Nat} {x : Int} (hx : L[i]? = some x) : ∃ b off, a = some ⟨b, off, none⟩ ∧ w.cell? ⟨b, off + i, none⟩ = some (.int .i64 x) := by
  obtain ⟨a', c', e, _, _, _, hr⟩ := h
  injection e with e1 _ _
  obtain ⟨_, b, off, e2, hc⟩ := hr i x hx
  exact ⟨b, off, by rw [e1, e2], hc⟩
abbrev ints (X : List Nat) : List Int := X.map fun (x : Nat) => (x : Int)
theorem own_one (w : World) (B : Nat) (hB : B ≤ w.heap.size) (x : Int) : OwnI (w.alloc (.cells #[.int .i64 x] 3)) B (.slice (some ⟨w.heap.size, 0, none⟩) 1 1) [x] :=
  ⟨rfl, .inr ⟨w.heap.size, 1, _, rfl, hB, heap_alloc_new _ _, Nat.le_refl _, by unfold maxLen; omega, rfl, rfl⟩⟩
set_option maxRecDepth 100000 in
set_option maxHeartbeats 4000000 in
theorem rorder_any (l : List ByteArray) (hl : l.length ≤ 4096) (lv : Value) (w : World) (hs : StrsAt w lv l) :
    Calls Try.prog 13 #[lv] w fun r w' => Grew w w' ∧ ∃ v, r = .returned (.tuple #[v, .int .i64 (ordK l).2]) ∧ RowI w' v (ordK l).1 := by
  have HS := Lib.hid hs
  obtain ⟨a, c, rfl⟩ := hs.form
  go_enter Try.func13, Try.ntmps13
  go_wp2_with fail
  go_loopw [4, 5] (fun o i wr => ∃ X : List Nat, X.length ≤ l.length ∧ i = .int .i64 X.length ∧ Hid (OrdI l X.length X ∧ Grew w wr ∧ OwnI wr w.heap.size o (ints X))) (fun _ i _ => l.length - (intOf i).toNat)
  case atStart => exact ⟨[], Nat.zero_le _, rfl, ⟨by simp, List.Pairwise.nil⟩, Grew.refl _, OwnI.nil _ _⟩
  case round =>
    obtain ⟨X, hq, rfl, HW⟩ := hrel
    obtain ⟨oa, oc, eo, ho1, ho2, ho3⟩ := rows_form HW.out.2.2
    subst eo
    rw [List.length_map] at ho1
    have HOW : Hid (OwnI wr w.heap.size (.slice oa X.length oc) (ints X)) := by
      have := HW.out.2.2; rwa [List.length_map] at this
    rw [List.length_map]
    by_cases hlt : X.length < l.length
    · obtain ⟨s, hsx⟩ : ∃ s, l[X.length]? = some s := ⟨_, List.getElem?_eq_getElem hlt⟩
      have hst := HS.out.grew HW.out.2.1
      obtain ⟨_, _, ee, _, _, _, hcell⟩ := HS.out
      cases ee
      obtain ⟨hz, b0, o0, e0, hc0⟩ := hcell X.length s hsx
      subst e0
      have HSX := Lib.hid (And.intro hsx hz)
      have HCELL := Lib.hid hcell
      have d0 := HW.out.2.1.cell hc0
      have hli : (X.length : Int) < l.length := by omega
      have hld : decide ((X.length : Int) < l.length) = true := decide_eq_true hli
      clear hcell hc0 hsx hz hst ho2 ho3
      go_wp2_with fail
      go_loopw [6] (fun i wr2 => ∃ k : Nat, k ≤ X.length ∧ i = .int .i64 k ∧ Hid (Grew wr wr2) ∧ Hid (∀ x ∈ X.take k, ltS (keyAt l x) s = true)) (fun i _ => X.length - (intOf i).toNat)
      case atStart => exact ⟨0, Nat.zero_le _, rfl, Grew.refl _, by show ∀ x ∈ X.take 0, _; simp⟩
      case round =>
        obtain ⟨k, hk, rfl, HGD, HV⟩ := hrel
        have hgd := HW.out.2.1.trans HGD.out
        replace d0 := HGD.out.cell d0
        by_cases hkX : k < X.length
        · obtain ⟨x, hx⟩ : ∃ x, X[k]? = some x := ⟨_, List.getElem?_eq_getElem hkX⟩
          have hxl : x < X.length := HW.out.1.lt (List.mem_of_getElem? hx)
          obtain ⟨sx, hsx⟩ : ∃ sx, l[x]? = some sx := ⟨_, List.getElem?_eq_getElem (by omega)⟩
          have hkx := keyAt_get hsx
          obtain ⟨hzx, bx, ox, ex, hcx⟩ := HCELL.out x sx hsx
          cases ex
          have dx := hgd.cell hcx
          obtain ⟨br, orr, e2, hcr⟩ := HOW.out.row.at (i := k) (x := (x : Int)) (by rw [List.getElem?_map, hx]; rfl)
          subst e2
          replace hcr := HGD.out.cell hcr
          have HGD2 := Lib.hid hgd
          clear hgd
          have hki : (k : Int) < X.length := by omega
          have hkd : decide ((k : Int) < X.length) = true := decide_eq_true hki
          have hxi : (x : Int) < l.length := by omega
          have HXX := Lib.hid (And.intro hx (And.intro hsx hkx))
          have hcall := fun w => rless_any sx s w hzx HSX.out.2
          clear hx hsx hkx hcx
          cases hls : ltS sx s with
          | true =>
            have HLS := Lib.hid hls
            rw [hls] at hcall
            have HCALL := Lib.hid hcall
            clear hls hcall
            go_wp2_with fail
            go_quiet ((go_at_call 17; exact Calls.quiet_of (HCALL.out _)))
            go_wp2_with fail
            go_roundw
            case rel => exact ⟨k + 1, by omega, by go_num, HGD.out.drewN _, by
              show ∀ y ∈ X.take (k + 1), _
              intro y hy
              rw [List.take_add_one, HXX.out.1] at hy
              rcases List.mem_append.1 hy with hy | hy
              · exact HV.out y hy
              · simp at hy; subst hy; rw [HXX.out.2.2]; exact HLS.out⟩
            case measure => simp [intOf]; omega
          | false =>
            have HLS := Lib.hid hls
            rw [hls] at hcall
            have HCALL := Lib.hid hcall
            clear hls hcall
            have hste := str_eq sx s
            by_cases hes : sx = s
            · have hd : decide (sx = s) = true := decide_eq_true hes
              rw [hd] at hste
              have HDUP : Hid (¬ l.Nodup) := by
                intro hnd
                have h1 := HXX.out.2.1
                have h2 := HSX.out.1
                rw [hes] at h1
                have hx1 := (List.getElem?_eq_some_iff.1 h1)
                have hx2 := (List.getElem?_eq_some_iff.1 h2)
                exact List.pairwise_iff_getElem.1 hnd x X.length hx1.1 hx2.1 hxl (hx1.2.trans hx2.2.symm)
              clear hes hd
              go_wp2_with fail
              go_quiet ((go_at_call 17; exact Calls.quiet_of (HCALL.out _)))
              go_wp2_with fail
              go_quiet (fail)
              go_wp2_with fail
              go_ret2
              have e : ordK l = ([], 71) := by unfold ordK; rw [if_neg HDUP.out]
              rw [e]
              exact ⟨(HGD2.out.drewN _).drewN _, _, rfl, RowI.nil _⟩
            · have hd : decide (sx = s) = false := decide_eq_false hes
              rw [hd] at hste
              have HNE := Lib.hid hes
              have horr : orr = 0 := by
                rcases HOW.out.2 with ⟨e, _⟩ | ⟨g, cap, cur, e, _⟩
                · cases e
                · injection e with e; injection e with e; injection e with _ e
              subst horr
              rw [Nat.zero_add] at hcr
              clear hes hd
              go_wp2_with fail
              go_quiet ((go_at_call 17; exact Calls.quiet_of (HCALL.out _)))
              generalize nq = n1
              go_wp2_with fail
              go_quiet (fail)
              go_wp2_with fail
              generalize nq = n2
              have HGV : Hid (Grew w ((wr.drewN n1).drewN n2)) := (HGD2.out.drewN _).drewN _
              have HOV : Hid (OwnI ((wr.drewN n1).drewN n2) w.heap.size (.slice (some ⟨br, 0, none⟩) X.length oc) (ints X)) := rows_grew HOW.out (((HGD.out.drewN n1).drewN n2))
              generalize ((wr.drewN n1).drewN n2) = wv at *
              obtain ⟨B, hB⟩ : ∃ B, wv.heap.size = B := ⟨_, rfl⟩
              have HBB : Hid (B ≤ wv.heap.size) := Nat.le_of_eq hB.symm
              have HDREW : Hid (Below B wv wv.drew) := by subst hB; exact (Grew.refl wv).drew
              obtain ⟨L1, hL1⟩ : ∃ L, (ints X).take k = L := ⟨_, rfl⟩
              obtain ⟨L2, hL2⟩ : ∃ L, (ints X).drop k = L := ⟨_, rfl⟩
              have HLL : Hid (L1.length = k ∧ k + L2.length ≤ 4096) := by
                show _ ∧ _
                rw [← hL1, ← hL2, List.length_take, List.length_drop, List.length_map]; omega
              have HLX : Hid (L1 ++ [(X.length : Int)] ++ L2 = ints (X.take k ++ [X.length] ++ X.drop k)) := by
                show _ = _
                rw [← hL1, ← hL2]; simp [ints, List.map_take, List.map_drop]
              have hrw : RowI wv (.slice (some ⟨br, 0, none⟩) (ints X).length oc) (ints X) := by rw [List.length_map]; exact HOV.out.row
              have HROW1 : Hid (∀ w', Below B wv w' → RowI w' (.slice (some ⟨br, 0, none⟩) k oc) L1) := by
                intro w' hb
                subst hB
                rw [← hL1]
                exact (RowI.take hrw (by rw [List.length_map]; omega)).below hb
              have HROW2 : Hid (∀ w', Below B wv w' → RowI w' (.slice (if oc = k then some ⟨br, 0, none⟩ else some ⟨br, k, none⟩) (X.length - k) (oc - k)) L2) := by
                intro w' hb
                subst hB
                rw [← hL2]
                have := (RowI.drop' hrw (k := k) (by rw [List.length_map]; omega)).below hb
                rwa [List.length_map] at this
              clear hrw
              have HORD : Hid (OrdI l (X.length + 1) (X.take k ++ [X.length] ++ X.drop k)) := by
                have hks := keyAt_get HSX.out.1
                refine HW.out.1.insert k (by omega) (fun y hy => by rw [hks]; exact HV.out y hy) (fun y hy => ?_)
                rw [hks]
                rw [HXX.out.1] at hy
                injection hy with hy
                subst hy
                rw [HXX.out.2.2]
                exact ⟨HLS.out, HNE.out⟩
              obtain ⟨X', hX'⟩ : ∃ X', X.take k ++ [X.length] ++ X.drop k = X' := ⟨_, rfl⟩
              rw [hX'] at HORD HLX
              have HXL : Hid (X'.length = X.length + 1) := HORD.out.len
              have HBV : Hid (wv.heap.size = B) := hB
              have hkoc : k ≤ oc := by omega
              clear hL1 hL2 hB hX' dx hcr d0
              refine wp_region_tablesD (Below B) 0 (fun _ => True) (stepA B k) [[], [], [], [1, 2], [0, 1, 2, 3], [], [5], [0, 1, 2, 3, 4, 5, 6], [], [], [8, 9], [0, 1, 2, 3, 4, 5, 6, 7, 8, 9, 10], [0, 1, 2, 3, 4, 5, 6, 7, 8, 9, 10, 11]] [[(53, 1), (54, 2), (55, 3), (57, 5), (58, 6), (60, 8), (61, 9), (62, 10)], [(52, 0), (54, 2), (57, 5), (58, 6), (60, 8), (61, 9), (62, 10)], [(52, 0), (53, 1), (57, 5), (58, 6), (60, 8), (61, 9), (62, 10)], [(52, 0), (53, 1), (54, 2), (57, 5), (58, 6), (60, 8), (61, 9), (62, 10)], [(52, 0), (53, 1), (54, 2), (55, 3), (57, 5), (58, 6), (60, 8), (61, 9), (62, 10)], [(52, 0), (53, 1), (54, 2), (55, 3), (56, 4), (60, 8), (61, 9), (62, 10)], [(52, 0), (53, 1), (54, 2), (55, 3), (56, 4), (57, 5), (60, 8), (61, 9), (62, 10)], [(52, 0), (53, 1), (54, 2), (55, 3), (56, 4), (57, 5), (58, 6), (60, 8), (61, 9), (62, 10)], [(52, 0), (53, 1), (54, 2), (55, 3), (56, 4), (57, 5), (58, 6), (59, 7), (61, 9)], [(52, 0), (53, 1), (54, 2), (55, 3), (56, 4), (57, 5), (58, 6), (59, 7), (60, 8)], [(52, 0), (53, 1), (54, 2), (55, 3), (56, 4), (57, 5), (58, 6), (59, 7), (60, 8), (61, 9)], [(52, 0), (53, 1), (54, 2), (55, 3), (56, 4), (57, 5), (58, 6), (59, 7), (60, 8), (61, 9), (62, 10)], [(52, 0), (53, 1), (54, 2), (55, 3), (56, 4), (57, 5), (58, 6), (59, 7), (60, 8), (61, 9), (62, 10), (63, 11)]] [(52, 0), (53, 1), (54, 2), (55, 3), (56, 4), (57, 5), (58, 6), (59, 7), (60, 8), (61, 9), (62, 10), (63, 11), (4, 12)]
                [fun y v w => v = .slice none 0 0, fun y v w => v = .slice (some ⟨br, 0, none⟩) X.length oc, fun y v w => v = .int .i64 k, fun y v w => v = .slice (some ⟨br, 0, none⟩) k oc, fun y v w => OwnI w B v L1 ∧ (L1.length = 0 → v = .slice none 0 0), fun y v w => v = .int .i64 X.length, fun y v w => OwnI w B v [(X.length : Int)], fun y v w => OwnI w B v (L1 ++ [(X.length : Int)]), fun y v w => v = .slice (some ⟨br, 0, none⟩) X.length oc, fun y v w => v = .int .i64 k, fun y v w => v = .slice (if oc = k then some ⟨br, 0, none⟩ else some ⟨br, k, none⟩) (X.length - k) (oc - k), fun y v w => OwnI w B v (L1 ++ [(X.length : Int)] ++ L2), fun y v w => OwnI w B v (L1 ++ [(X.length : Int)] ++ L2)]
                (by kernel_rfl) (fun h k => Below.trans h k) (Below.refl _) stepA.below stepA.refl (fun _ _ _ _ _ h => h) trivial HDREW.out (by kernel_rfl)
                ⟨fun i hi hnd y v w w' ht h => h, fun i hi hnd y v w w' ht h => h, fun i hi hnd y v w w' ht h => h, fun i hi hnd y v w w' ht h => h, fun i hi hnd y v w w' ht h => ⟨h.1.step ht (fun _ => by have := HLL.out.1; omega) (fun _ => by have := HLL.out.1; omega), h.2⟩, fun i hi hnd y v w w' ht h => h, fun i hi hnd y v w w' ht h => h.step ht (fun _ => by simp; omega) (fun _ => by simp), fun i hi hnd y v w w' ht h => h.step ht (fun e => absurd e hi) (fun _ => by have := HLL.out.1; simp; omega), fun i hi hnd y v w w' ht h => h, fun i hi hnd y v w w' ht h => h, fun i hi hnd y v w w' ht h => h, fun i hi hnd y v w w' ht h => h.step ht (fun e => by subst e; exact absurd hnd (by decide)) (fun e => absurd e hi), fun i hi hnd y v w w' ht h => h.step ht (fun e => by subst e; exact absurd hnd (by decide)) (fun e => by subst e; exact absurd hnd (by decide)), trivial⟩
                ⟨fun _ _ _ _ _ h => h, fun _ _ _ _ _ h => h, fun _ _ _ _ _ h => h, fun _ _ _ _ _ h => h, fun _ _ _ _ _ h => h, fun _ _ _ _ _ h => h, fun _ _ _ _ _ h => h, fun _ _ _ _ _ h => h, fun _ _ _ _ _ h => h, fun _ _ _ _ _ h => h, fun _ _ _ _ _ h => h, fun _ _ _ _ _ h => h, fun _ _ _ _ _ h => h, trivial⟩
                ⟨?_, ?_, ?_, ?_, ?_, ?_, ?_, ?_, ?_, ?_, ?_, ?_, ?_, trivial⟩ rfl ?_
              · intro y w2 hG hI hD K hK
                clear hI
                have hBs : B ≤ w2.heap.size := Nat.le_trans HBB.out hG.size
                simp only [fillL, Act.put, List.setIfInBounds_toArray, List.set_cons_zero, List.set_cons_succ, List.getD_cons_zero, List.getD_cons_succ] at hK ⊢
                refine ite_yes (by rfl) ?_
                go_simp
                exact hK _ _ _ rfl (stepA.refl _ _) rfl
              · intro y w2 hG hI hD K hK
                clear hI
                have hBs : B ≤ w2.heap.size := Nat.le_trans HBB.out hG.size
                simp only [fillL, Act.put, List.setIfInBounds_toArray, List.set_cons_zero, List.set_cons_succ, List.getD_cons_zero, List.getD_cons_succ] at hK ⊢
                refine ite_yes (by rfl) ?_
                go_simp
                exact hK _ _ _ rfl (stepA.refl _ _) rfl
              · intro y w2 hG hI hD K hK
                clear hI
                have hBs : B ≤ w2.heap.size := Nat.le_trans HBB.out hG.size
                simp only [fillL, Act.put, List.setIfInBounds_toArray, List.set_cons_zero, List.set_cons_succ, List.getD_cons_zero, List.getD_cons_succ] at hK ⊢
                refine ite_yes (by rfl) ?_
                go_simp
                exact hK _ _ _ rfl (stepA.refl _ _) rfl
              · intro y w2 hG hI hD K hK
                clear hI
                have hBs : B ≤ w2.heap.size := Nat.le_trans HBB.out hG.size
                simp only [depsT, List.getD_cons_zero, List.getD_cons_succ, and_true] at hD
                have h1 := hD.1
                have h2 := hD.2
                clear hD
                simp only [fillL, Act.put, List.setIfInBounds_toArray, List.set_cons_zero, List.set_cons_succ, List.getD_cons_zero, List.getD_cons_succ] at hK ⊢
                simp only [h1, h2] at hK ⊢
                clear h1 h2
                refine ite_yes (by rfl) ?_
                go_simp
                exact hK _ _ _ rfl (stepA.refl _ _) rfl
              · intro y w2 hG hI hD K hK
                clear hI
                have hBs : B ≤ w2.heap.size := Nat.le_trans HBB.out hG.size
                simp only [depsT, List.getD_cons_zero, List.getD_cons_succ, and_true] at hD
                have h0 := hD.1
                have h1 := hD.2.1
                have h2 := hD.2.2.1
                have h3 := hD.2.2.2
                clear hD
                simp only [fillL, Act.put, List.setIfInBounds_toArray, List.set_cons_zero, List.set_cons_succ, List.getD_cons_zero, List.getD_cons_succ] at hK ⊢
                simp only [h0, h1, h2, h3] at hK ⊢
                clear h0 h1 h2 h3
                refine ite_yes (by rfl) ?_
                refine wp_append_keep _ _ rfl B (.slice none 0 0) [] rfl (OwnI.nil _ _) (.slice (some ⟨br, 0, none⟩) k oc) L1 rfl (HROW1.out _ hG) (by have := HLL.out; simp; omega) hBs (fun _ => rfl) ?_
                intro v' w' ho hk h0
                exact hK _ _ _ rfl ⟨hk.1, .inr (.inr (h0.2 rfl))⟩ ⟨by simpa using ho, fun h => h0.1 (by simpa using h)⟩
              · intro y w2 hG hI hD K hK
                clear hI
                have hBs : B ≤ w2.heap.size := Nat.le_trans HBB.out hG.size
                simp only [fillL, Act.put, List.setIfInBounds_toArray, List.set_cons_zero, List.set_cons_succ, List.getD_cons_zero, List.getD_cons_succ] at hK ⊢
                refine ite_yes (by rfl) ?_
                go_simp
                exact hK _ _ _ rfl (stepA.refl _ _) rfl
              · intro y w2 hG hI hD K hK
                clear hI
                have hBs : B ≤ w2.heap.size := Nat.le_trans HBB.out hG.size
                simp only [depsT, List.getD_cons_zero, List.getD_cons_succ, and_true] at hD
                have h5 := hD
                clear hD
                simp only [fillL, Act.put, List.setIfInBounds_toArray, List.set_cons_zero, List.set_cons_succ, List.getD_cons_zero, List.getD_cons_succ] at hK ⊢
                simp only [h5] at hK ⊢
                clear h5
                refine ite_yes (by rfl) ?_
                go_simp
                exact hK _ _ _ rfl (stepA.grew hBs ((Grew.refl _).alloc _)) (own_one _ _ hBs _)
              · intro y w2 hG hI hD K hK
                clear hI
                have hBs : B ≤ w2.heap.size := Nat.le_trans HBB.out hG.size
                simp only [depsT, List.getD_cons_zero, List.getD_cons_succ, and_true] at hD
                have h0 := hD.1
                have h1 := hD.2.1
                have h2 := hD.2.2.1
                have h3 := hD.2.2.2.1
                have h4 := hD.2.2.2.2.1
                have h5 := hD.2.2.2.2.2.1
                have h6 := hD.2.2.2.2.2.2
                clear hD
                simp only [fillL, Act.put, List.setIfInBounds_toArray, List.set_cons_zero, List.set_cons_succ, List.getD_cons_zero, List.getD_cons_succ] at hK ⊢
                simp only [h0, h1, h2, h3, h5] at hK ⊢
                clear h0 h1 h2 h3 h5
                refine ite_yes (by rfl) ?_
                refine wp_append_keep _ _ rfl B (y 4) L1 rfl h4.1 (y 6) [(X.length : Int)] rfl h6.row (by have := HLL.out; simp; omega) hBs h4.2 ?_
                intro v' w' ho hk _
                exact hK _ _ _ rfl ⟨hk.1, .inl ⟨rfl, by rw [← HLL.out.1]; exact hk⟩⟩ ho
              · intro y w2 hG hI hD K hK
                clear hI
                have hBs : B ≤ w2.heap.size := Nat.le_trans HBB.out hG.size
                simp only [fillL, Act.put, List.setIfInBounds_toArray, List.set_cons_zero, List.set_cons_succ, List.getD_cons_zero, List.getD_cons_succ] at hK ⊢
                refine ite_yes (by rfl) ?_
                go_simp
                exact hK _ _ _ rfl (stepA.refl _ _) rfl
              · intro y w2 hG hI hD K hK
                clear hI
                have hBs : B ≤ w2.heap.size := Nat.le_trans HBB.out hG.size
                simp only [fillL, Act.put, List.setIfInBounds_toArray, List.set_cons_zero, List.set_cons_succ, List.getD_cons_zero, List.getD_cons_succ] at hK ⊢
                refine ite_yes (by rfl) ?_
                go_simp
                exact hK _ _ _ rfl (stepA.refl _ _) rfl
              · intro y w2 hG hI hD K hK
                clear hI
                have hBs : B ≤ w2.heap.size := Nat.le_trans HBB.out hG.size
                simp only [depsT, List.getD_cons_zero, List.getD_cons_succ, and_true] at hD
                have h8 := hD.1
                have h9 := hD.2
                clear hD
                simp only [fillL, Act.put, List.setIfInBounds_toArray, List.set_cons_zero, List.set_cons_succ, List.getD_cons_zero, List.getD_cons_succ] at hK ⊢
                simp only [h8, h9] at hK ⊢
                clear h8 h9
                refine ite_yes (by rfl) ?_
                go_simp
                exact hK _ _ _ rfl (stepA.refl _ _) rfl
              · intro y w2 hG hI hD K hK
                clear hI
                have hBs : B ≤ w2.heap.size := Nat.le_trans HBB.out hG.size
                simp only [depsT, List.getD_cons_zero, List.getD_cons_succ, and_true] at hD
                have h0 := hD.1
                have h1 := hD.2.1
                have h2 := hD.2.2.1
                have h3 := hD.2.2.2.1
                have h4 := hD.2.2.2.2.1
                have h5 := hD.2.2.2.2.2.1
                have h6 := hD.2.2.2.2.2.2.1
                have h7 := hD.2.2.2.2.2.2.2.1
                have h8 := hD.2.2.2.2.2.2.2.2.1
                have h9 := hD.2.2.2.2.2.2.2.2.2.1
                have h10 := hD.2.2.2.2.2.2.2.2.2.2
                clear hD
                simp only [fillL, Act.put, List.setIfInBounds_toArray, List.set_cons_zero, List.set_cons_succ, List.getD_cons_zero, List.getD_cons_succ] at hK ⊢
                simp only [h0, h1, h2, h3, h5, h8, h9, h10] at hK ⊢
                clear h0 h1 h2 h3 h5 h8 h9 h10
                refine ite_yes (by rfl) ?_
                refine wp_append_keep _ _ rfl B (y 7) (L1 ++ [(X.length : Int)]) rfl h7 (.slice (if oc = k then some ⟨br, 0, none⟩ else some ⟨br, k, none⟩) (X.length - k) (oc - k)) L2 rfl (HROW2.out _ hG) (by have := HLL.out; simp; omega) hBs (fun h => by simp at h) ?_
                intro v' w' ho hk _
                refine hK _ _ _ rfl ⟨hk.1, .inr (.inl ⟨rfl, ?_⟩)⟩ ho
                have e : max (L1 ++ [(X.length : Int)]).length 1 = k + 1 := by have := HLL.out.1; simp; omega
                rw [e] at hk; exact hk
              · intro y w2 hG hI hD K hK
                clear hI
                have hBs : B ≤ w2.heap.size := Nat.le_trans HBB.out hG.size
                simp only [depsT, List.getD_cons_zero, List.getD_cons_succ, and_true] at hD
                have h0 := hD.1
                have h1 := hD.2.1
                have h2 := hD.2.2.1
                have h3 := hD.2.2.2.1
                have h4 := hD.2.2.2.2.1
                have h5 := hD.2.2.2.2.2.1
                have h6 := hD.2.2.2.2.2.2.1
                have h7 := hD.2.2.2.2.2.2.2.1
                have h8 := hD.2.2.2.2.2.2.2.2.1
                have h9 := hD.2.2.2.2.2.2.2.2.2.1
                have h10 := hD.2.2.2.2.2.2.2.2.2.2.1
                have h11 := hD.2.2.2.2.2.2.2.2.2.2.2
                clear hD
                simp only [fillL, Act.put, List.setIfInBounds_toArray, List.set_cons_zero, List.set_cons_succ, List.getD_cons_zero, List.getD_cons_succ] at hK ⊢
                simp only [h0, h1, h2, h3, h5, h8, h9, h10] at hK ⊢
                clear h0 h1 h2 h3 h5 h8 h9 h10
                refine ite_yes (by rfl) ?_
                go_simp
                exact hK _ _ _ rfl (stepA.refl _ _) h11
              · intro y w2 hG hF
                simp only [factsT, and_true, Nat.reduceAdd] at hF
                have h0 := hF.1
                have h1 := hF.2.1
                have h2 := hF.2.2.1
                have h3 := hF.2.2.2.1
                have h4 := hF.2.2.2.2.1
                have h5 := hF.2.2.2.2.2.1
                have h6 := hF.2.2.2.2.2.2.1
                have h7 := hF.2.2.2.2.2.2.2.1
                have h8 := hF.2.2.2.2.2.2.2.2.1
                have h9 := hF.2.2.2.2.2.2.2.2.2.1
                have h10 := hF.2.2.2.2.2.2.2.2.2.2.1
                have h11 := hF.2.2.2.2.2.2.2.2.2.2.2.1
                have h12 := hF.2.2.2.2.2.2.2.2.2.2.2.2
                clear hF
                simp only [fillL, Act.put, List.setIfInBounds_toArray, List.set_cons_zero, List.set_cons_succ, List.getD_cons_zero, List.getD_cons_succ]
                simp only [h0, h1, h2, h3, h5, h8, h9, h10]
                clear h0 h1 h2 h3 h5 h8 h9 h10
                obtain ⟨a12, c12, e12, _⟩ := rows_form h12
                rw [e12] at h12 ⊢
                have HF : Hid (Grew w w2 ∧ OwnI w2 w.heap.size (.slice a12 (L1 ++ [(X.length : Int)] ++ L2).length c12) (ints X')) := by
                  have hgv := HGV.out
                  have hb := HBV.out
                  subst hb
                  refine ⟨hgv.trans hG, ?_⟩
                  have := rows_base h12 hgv.size
                  unfold OwnI
                  rw [← HLX.out]; exact this
                clear h4 h6 h7 h11 h12 hG e12
                go_wp2_with fail
                go_roundw
                case rel =>
                  refine ⟨X', by have := HXL.out; omega, by rw [HXL.out]; go_num, ?_⟩
                  have h1 := HORD.out
                  rw [← HXL.out] at h1
                  exact ⟨h1, HF.out⟩
                case measure => simp [intOf]; omega
        · have HKE : Hid (k = X.length) := by show _ = _; omega
          have hkd : decide ((k : Int) < X.length) = false := decide_eq_false (by omega)
          have HGD2 := Lib.hid hgd
          clear hgd
          go_wp2_with fail
          go_quiet (fail)
          generalize nq = n1
          go_wp2_with fail
          go_quiet (fail)
          go_wp2_with fail
          rcases hoa : oa with _ | ad
          · subst hoa
            have HX0 : Hid (X.length = 0 ∧ oc = 0) := by
              rcases HOW.out.2 with ⟨e, _⟩ | ⟨g, cap, cur, e, _⟩
              · injection e with _ e1 e2; exact ⟨e1, e2⟩
              · injection e with e; cases e
            generalize nq = n2
            have HGV : Hid (Grew w ((wr.drewN n1).drewN n2)) := (HGD2.out.drewN _).drewN _
            have HOV : Hid (OwnI ((wr.drewN n1).drewN n2) w.heap.size (.slice none X.length oc) (ints X)) := rows_grew HOW.out (((HGD.out.drewN n1).drewN n2))
            generalize ((wr.drewN n1).drewN n2) = wv at *
            obtain ⟨B, hB⟩ : ∃ B, wv.heap.size = B := ⟨_, rfl⟩
            have HBB : Hid (B ≤ wv.heap.size) := Nat.le_of_eq hB.symm
            have HDREW : Hid (Below B wv wv.drew) := by subst hB; exact (Grew.refl wv).drew
            obtain ⟨L1, hL1⟩ : ∃ L, (ints X).take k = L := ⟨_, rfl⟩
            obtain ⟨L2, hL2⟩ : ∃ L, (ints X).drop k = L := ⟨_, rfl⟩
            have HLL : Hid (L1.length = k ∧ k + L2.length ≤ 4096) := by
              show _ ∧ _
              rw [← hL1, ← hL2, List.length_take, List.length_drop, List.length_map]; omega
            have HLX : Hid (L1 ++ [(X.length : Int)] ++ L2 = ints (X.take k ++ [X.length] ++ X.drop k)) := by
              show _ = _
              rw [← hL1, ← hL2]; simp [ints, List.map_take, List.map_drop]
            have HROW1 : Hid (∀ w', Below B wv w' → RowI w' (.slice none k oc) L1) := by
              intro w' hb
              have e : L1 = [] := List.eq_nil_of_length_eq_zero (by have := HLL.out.1; have := HX0.out.1; omega)
              rw [e]; exact ⟨none, oc, by rw [show k = 0 by have := HX0.out.1; omega]; rfl, Nat.zero_le _, by have := HX0.out.2; unfold lenok; omega, fun _ => HX0.out.2, by simp⟩
            have HROW2 : Hid (∀ w', Below B wv w' → RowI w' (.slice none (X.length - k) (oc - k)) L2) := by
              intro w' hb
              have e : L2 = [] := by rw [← hL2]; exact List.drop_eq_nil_of_le (by rw [List.length_map]; have := HX0.out.1; omega)
              rw [e, show X.length - k = 0 by have := HX0.out.1; omega]; exact ⟨none, oc - k, rfl, Nat.zero_le _, by have := HX0.out.2; unfold lenok; omega, fun _ => by have := HX0.out.2; omega, by simp⟩
            have HORD : Hid (OrdI l (X.length + 1) (X.take k ++ [X.length] ++ X.drop k)) := by
              have hks := keyAt_get HSX.out.1
              refine HW.out.1.insert k (by omega) (fun y hy => by rw [hks]; exact HV.out y hy) (fun y hy => ?_)
              rw [hks]
              rw [List.getElem?_eq_none (by have := HKE.out; omega)] at hy
              cases hy
            obtain ⟨X', hX'⟩ : ∃ X', X.take k ++ [X.length] ++ X.drop k = X' := ⟨_, rfl⟩
            rw [hX'] at HORD HLX
            have HXL : Hid (X'.length = X.length + 1) := HORD.out.len
            have HBV : Hid (wv.heap.size = B) := hB
            have hkoc : k ≤ oc := by omega
            clear hL1 hL2 hB hX' d0
            refine wp_region_tablesD (Below B) 0 (fun _ => True) (stepA B k) [[], [], [], [1, 2], [0, 1, 2, 3], [], [5], [0, 1, 2, 3, 4, 5, 6], [], [], [8, 9], [0, 1, 2, 3, 4, 5, 6, 7, 8, 9, 10], [0, 1, 2, 3, 4, 5, 6, 7, 8, 9, 10, 11]] [[(53, 1), (54, 2), (55, 3), (57, 5), (58, 6), (60, 8), (61, 9), (62, 10)], [(52, 0), (54, 2), (57, 5), (58, 6), (60, 8), (61, 9), (62, 10)], [(52, 0), (53, 1), (57, 5), (58, 6), (60, 8), (61, 9), (62, 10)], [(52, 0), (53, 1), (54, 2), (57, 5), (58, 6), (60, 8), (61, 9), (62, 10)], [(52, 0), (53, 1), (54, 2), (55, 3), (57, 5), (58, 6), (60, 8), (61, 9), (62, 10)], [(52, 0), (53, 1), (54, 2), (55, 3), (56, 4), (60, 8), (61, 9), (62, 10)], [(52, 0), (53, 1), (54, 2), (55, 3), (56, 4), (57, 5), (60, 8), (61, 9), (62, 10)], [(52, 0), (53, 1), (54, 2), (55, 3), (56, 4), (57, 5), (58, 6), (60, 8), (61, 9), (62, 10)], [(52, 0), (53, 1), (54, 2), (55, 3), (56, 4), (57, 5), (58, 6), (59, 7), (61, 9)], [(52, 0), (53, 1), (54, 2), (55, 3), (56, 4), (57, 5), (58, 6), (59, 7), (60, 8)], [(52, 0), (53, 1), (54, 2), (55, 3), (56, 4), (57, 5), (58, 6), (59, 7), (60, 8), (61, 9)], [(52, 0), (53, 1), (54, 2), (55, 3), (56, 4), (57, 5), (58, 6), (59, 7), (60, 8), (61, 9), (62, 10)], [(52, 0), (53, 1), (54, 2), (55, 3), (56, 4), (57, 5), (58, 6), (59, 7), (60, 8), (61, 9), (62, 10), (63, 11)]] [(52, 0), (53, 1), (54, 2), (55, 3), (56, 4), (57, 5), (58, 6), (59, 7), (60, 8), (61, 9), (62, 10), (63, 11), (4, 12)]
              [fun y v w => v = .slice none 0 0, fun y v w => v = .slice none X.length oc, fun y v w => v = .int .i64 k, fun y v w => v = .slice none k oc, fun y v w => OwnI w B v L1 ∧ (L1.length = 0 → v = .slice none 0 0), fun y v w => v = .int .i64 X.length, fun y v w => OwnI w B v [(X.length : Int)], fun y v w => OwnI w B v (L1 ++ [(X.length : Int)]), fun y v w => v = .slice none X.length oc, fun y v w => v = .int .i64 k, fun y v w => v = .slice none (X.length - k) (oc - k), fun y v w => OwnI w B v (L1 ++ [(X.length : Int)] ++ L2), fun y v w => OwnI w B v (L1 ++ [(X.length : Int)] ++ L2)]
              (by kernel_rfl) (fun h k => Below.trans h k) (Below.refl _) stepA.below stepA.refl (fun _ _ _ _ _ h => h) trivial HDREW.out (by kernel_rfl)
              ⟨fun i hi hnd y v w w' ht h => h, fun i hi hnd y v w w' ht h => h, fun i hi hnd y v w w' ht h => h, fun i hi hnd y v w w' ht h => h, fun i hi hnd y v w w' ht h => ⟨h.1.step ht (fun _ => by have := HLL.out.1; omega) (fun _ => by have := HLL.out.1; omega), h.2⟩, fun i hi hnd y v w w' ht h => h, fun i hi hnd y v w w' ht h => h.step ht (fun _ => by simp; omega) (fun _ => by simp), fun i hi hnd y v w w' ht h => h.step ht (fun e => absurd e hi) (fun _ => by have := HLL.out.1; simp; omega), fun i hi hnd y v w w' ht h => h, fun i hi hnd y v w w' ht h => h, fun i hi hnd y v w w' ht h => h, fun i hi hnd y v w w' ht h => h.step ht (fun e => by subst e; exact absurd hnd (by decide)) (fun e => absurd e hi), fun i hi hnd y v w w' ht h => h.step ht (fun e => by subst e; exact absurd hnd (by decide)) (fun e => by subst e; exact absurd hnd (by decide)), trivial⟩
              ⟨fun _ _ _ _ _ h => h, fun _ _ _ _ _ h => h, fun _ _ _ _ _ h => h, fun _ _ _ _ _ h => h, fun _ _ _ _ _ h => h, fun _ _ _ _ _ h => h, fun _ _ _ _ _ h => h, fun _ _ _ _ _ h => h, fun _ _ _ _ _ h => h, fun _ _ _ _ _ h => h, fun _ _ _ _ _ h => h, fun _ _ _ _ _ h => h, fun _ _ _ _ _ h => h, trivial⟩
              ⟨?_, ?_, ?_, ?_, ?_, ?_, ?_, ?_, ?_, ?_, ?_, ?_, ?_, trivial⟩ rfl ?_
            · intro y w2 hG hI hD K hK
              clear hI
              have hBs : B ≤ w2.heap.size := Nat.le_trans HBB.out hG.size
              simp only [fillL, Act.put, List.setIfInBounds_toArray, List.set_cons_zero, List.set_cons_succ, List.getD_cons_zero, List.getD_cons_succ] at hK ⊢
              refine ite_yes (by rfl) ?_
              go_simp
              exact hK _ _ _ rfl (stepA.refl _ _) rfl
            · intro y w2 hG hI hD K hK
              clear hI
              have hBs : B ≤ w2.heap.size := Nat.le_trans HBB.out hG.size
              simp only [fillL, Act.put, List.setIfInBounds_toArray, List.set_cons_zero, List.set_cons_succ, List.getD_cons_zero, List.getD_cons_succ] at hK ⊢
              refine ite_yes (by rfl) ?_
              go_simp
              exact hK _ _ _ rfl (stepA.refl _ _) rfl
            · intro y w2 hG hI hD K hK
              clear hI
              have hBs : B ≤ w2.heap.size := Nat.le_trans HBB.out hG.size
              simp only [fillL, Act.put, List.setIfInBounds_toArray, List.set_cons_zero, List.set_cons_succ, List.getD_cons_zero, List.getD_cons_succ] at hK ⊢
              refine ite_yes (by rfl) ?_
              go_simp
              exact hK _ _ _ rfl (stepA.refl _ _) rfl
            · intro y w2 hG hI hD K hK
              clear hI
              have hBs : B ≤ w2.heap.size := Nat.le_trans HBB.out hG.size
              simp only [depsT, List.getD_cons_zero, List.getD_cons_succ, and_true] at hD
              have h1 := hD.1
              have h2 := hD.2
              clear hD
              simp only [fillL, Act.put, List.setIfInBounds_toArray, List.set_cons_zero, List.set_cons_succ, List.getD_cons_zero, List.getD_cons_succ] at hK ⊢
              simp only [h1, h2] at hK ⊢
              clear h1 h2
              refine ite_yes (by rfl) ?_
              go_simp
              exact hK _ _ _ rfl (stepA.refl _ _) rfl
            · intro y w2 hG hI hD K hK
              clear hI
              have hBs : B ≤ w2.heap.size := Nat.le_trans HBB.out hG.size
              simp only [depsT, List.getD_cons_zero, List.getD_cons_succ, and_true] at hD
              have h0 := hD.1
              have h1 := hD.2.1
              have h2 := hD.2.2.1
              have h3 := hD.2.2.2
              clear hD
              simp only [fillL, Act.put, List.setIfInBounds_toArray, List.set_cons_zero, List.set_cons_succ, List.getD_cons_zero, List.getD_cons_succ] at hK ⊢
              simp only [h0, h1, h2, h3] at hK ⊢
              clear h0 h1 h2 h3
              refine ite_yes (by rfl) ?_
              refine wp_append_keep _ _ rfl B (.slice none 0 0) [] rfl (OwnI.nil _ _) (.slice none k oc) L1 rfl (HROW1.out _ hG) (by have := HLL.out; simp; omega) hBs (fun _ => rfl) ?_
              intro v' w' ho hk h0
              exact hK _ _ _ rfl ⟨hk.1, .inr (.inr (h0.2 rfl))⟩ ⟨by simpa using ho, fun h => h0.1 (by simpa using h)⟩
            · intro y w2 hG hI hD K hK
              clear hI
              have hBs : B ≤ w2.heap.size := Nat.le_trans HBB.out hG.size
              simp only [fillL, Act.put, List.setIfInBounds_toArray, List.set_cons_zero, List.set_cons_succ, List.getD_cons_zero, List.getD_cons_succ] at hK ⊢
              refine ite_yes (by rfl) ?_
              go_simp
              exact hK _ _ _ rfl (stepA.refl _ _) rfl
            · intro y w2 hG hI hD K hK
              clear hI
              have hBs : B ≤ w2.heap.size := Nat.le_trans HBB.out hG.size
              simp only [depsT, List.getD_cons_zero, List.getD_cons_succ, and_true] at hD
              have h5 := hD
              clear hD
              simp only [fillL, Act.put, List.setIfInBounds_toArray, List.set_cons_zero, List.set_cons_succ, List.getD_cons_zero, List.getD_cons_succ] at hK ⊢
              simp only [h5] at hK ⊢
              clear h5
              refine ite_yes (by rfl) ?_
              go_simp
              exact hK _ _ _ rfl (stepA.grew hBs ((Grew.refl _).alloc _)) (own_one _ _ hBs _)
            · intro y w2 hG hI hD K hK
              clear hI
              have hBs : B ≤ w2.heap.size := Nat.le_trans HBB.out hG.size
              simp only [depsT, List.getD_cons_zero, List.getD_cons_succ, and_true] at hD
              have h0 := hD.1
              have h1 := hD.2.1
              have h2 := hD.2.2.1
              have h3 := hD.2.2.2.1
              have h4 := hD.2.2.2.2.1
              have h5 := hD.2.2.2.2.2.1
              have h6 := hD.2.2.2.2.2.2
              clear hD
              simp only [fillL, Act.put, List.setIfInBounds_toArray, List.set_cons_zero, List.set_cons_succ, List.getD_cons_zero, List.getD_cons_succ] at hK ⊢
              simp only [h0, h1, h2, h3, h5] at hK ⊢
              clear h0 h1 h2 h3 h5
              refine ite_yes (by rfl) ?_
              refine wp_append_keep _ _ rfl B (y 4) L1 rfl h4.1 (y 6) [(X.length : Int)] rfl h6.row (by have := HLL.out; simp; omega) hBs h4.2 ?_
              intro v' w' ho hk _
              exact hK _ _ _ rfl ⟨hk.1, .inl ⟨rfl, by rw [← HLL.out.1]; exact hk⟩⟩ ho
            · intro y w2 hG hI hD K hK
              clear hI
              have hBs : B ≤ w2.heap.size := Nat.le_trans HBB.out hG.size
              simp only [fillL, Act.put, List.setIfInBounds_toArray, List.set_cons_zero, List.set_cons_succ, List.getD_cons_zero, List.getD_cons_succ] at hK ⊢
              refine ite_yes (by rfl) ?_
              go_simp
              exact hK _ _ _ rfl (stepA.refl _ _) rfl
            · intro y w2 hG hI hD K hK
              clear hI
              have hBs : B ≤ w2.heap.size := Nat.le_trans HBB.out hG.size
              simp only [fillL, Act.put, List.setIfInBounds_toArray, List.set_cons_zero, List.set_cons_succ, List.getD_cons_zero, List.getD_cons_succ] at hK ⊢
              refine ite_yes (by rfl) ?_
              go_simp
              exact hK _ _ _ rfl (stepA.refl _ _) rfl
            · intro y w2 hG hI hD K hK
              clear hI
              have hBs : B ≤ w2.heap.size := Nat.le_trans HBB.out hG.size
              simp only [depsT, List.getD_cons_zero, List.getD_cons_succ, and_true] at hD
              have h8 := hD.1
              have h9 := hD.2
              clear hD
              simp only [fillL, Act.put, List.setIfInBounds_toArray, List.set_cons_zero, List.set_cons_succ, List.getD_cons_zero, List.getD_cons_succ] at hK ⊢
              simp only [h8, h9] at hK ⊢
              clear h8 h9
              refine ite_yes (by rfl) ?_
              go_simp
              exact hK _ _ _ rfl (stepA.refl _ _) rfl
            · intro y w2 hG hI hD K hK
              clear hI
              have hBs : B ≤ w2.heap.size := Nat.le_trans HBB.out hG.size
              simp only [depsT, List.getD_cons_zero, List.getD_cons_succ, and_true] at hD
              have h0 := hD.1
              have h1 := hD.2.1
              have h2 := hD.2.2.1
              have h3 := hD.2.2.2.1
              have h4 := hD.2.2.2.2.1
              have h5 := hD.2.2.2.2.2.1
              have h6 := hD.2.2.2.2.2.2.1
              have h7 := hD.2.2.2.2.2.2.2.1
              have h8 := hD.2.2.2.2.2.2.2.2.1
              have h9 := hD.2.2.2.2.2.2.2.2.2.1
              have h10 := hD.2.2.2.2.2.2.2.2.2.2
              clear hD
              simp only [fillL, Act.put, List.setIfInBounds_toArray, List.set_cons_zero, List.set_cons_succ, List.getD_cons_zero, List.getD_cons_succ] at hK ⊢
              simp only [h0, h1, h2, h3, h5, h8, h9, h10] at hK ⊢
              clear h0 h1 h2 h3 h5 h8 h9 h10
              refine ite_yes (by rfl) ?_
              refine wp_append_keep _ _ rfl B (y 7) (L1 ++ [(X.length : Int)]) rfl h7 (.slice none (X.length - k) (oc - k)) L2 rfl (HROW2.out _ hG) (by have := HLL.out; simp; omega) hBs (fun h => by simp at h) ?_
              intro v' w' ho hk _
              refine hK _ _ _ rfl ⟨hk.1, .inr (.inl ⟨rfl, ?_⟩)⟩ ho
              have e : max (L1 ++ [(X.length : Int)]).length 1 = k + 1 := by have := HLL.out.1; simp; omega
              rw [e] at hk; exact hk
            · intro y w2 hG hI hD K hK
              clear hI
              have hBs : B ≤ w2.heap.size := Nat.le_trans HBB.out hG.size
              simp only [depsT, List.getD_cons_zero, List.getD_cons_succ, and_true] at hD
              have h0 := hD.1
              have h1 := hD.2.1
              have h2 := hD.2.2.1
              have h3 := hD.2.2.2.1
              have h4 := hD.2.2.2.2.1
              have h5 := hD.2.2.2.2.2.1
              have h6 := hD.2.2.2.2.2.2.1
              have h7 := hD.2.2.2.2.2.2.2.1
              have h8 := hD.2.2.2.2.2.2.2.2.1
              have h9 := hD.2.2.2.2.2.2.2.2.2.1
              have h10 := hD.2.2.2.2.2.2.2.2.2.2.1
              have h11 := hD.2.2.2.2.2.2.2.2.2.2.2
              clear hD
              simp only [fillL, Act.put, List.setIfInBounds_toArray, List.set_cons_zero, List.set_cons_succ, List.getD_cons_zero, List.getD_cons_succ] at hK ⊢
              simp only [h0, h1, h2, h3, h5, h8, h9, h10] at hK ⊢
              clear h0 h1 h2 h3 h5 h8 h9 h10
              refine ite_yes (by rfl) ?_
              go_simp
              exact hK _ _ _ rfl (stepA.refl _ _) h11
            · intro y w2 hG hF
              simp only [factsT, and_true, Nat.reduceAdd] at hF
              have h0 := hF.1
              have h1 := hF.2.1
              have h2 := hF.2.2.1
              have h3 := hF.2.2.2.1
              have h4 := hF.2.2.2.2.1
              have h5 := hF.2.2.2.2.2.1
              have h6 := hF.2.2.2.2.2.2.1
              have h7 := hF.2.2.2.2.2.2.2.1
              have h8 := hF.2.2.2.2.2.2.2.2.1
              have h9 := hF.2.2.2.2.2.2.2.2.2.1
              have h10 := hF.2.2.2.2.2.2.2.2.2.2.1
              have h11 := hF.2.2.2.2.2.2.2.2.2.2.2.1
              have h12 := hF.2.2.2.2.2.2.2.2.2.2.2.2
              clear hF
              simp only [fillL, Act.put, List.setIfInBounds_toArray, List.set_cons_zero, List.set_cons_succ, List.getD_cons_zero, List.getD_cons_succ]
              simp only [h0, h1, h2, h3, h5, h8, h9, h10]
              clear h0 h1 h2 h3 h5 h8 h9 h10
              obtain ⟨a12, c12, e12, _⟩ := rows_form h12
              rw [e12] at h12 ⊢
              have HF : Hid (Grew w w2 ∧ OwnI w2 w.heap.size (.slice a12 (L1 ++ [(X.length : Int)] ++ L2).length c12) (ints X')) := by
                have hgv := HGV.out
                have hb := HBV.out
                subst hb
                refine ⟨hgv.trans hG, ?_⟩
                have := rows_base h12 hgv.size
                unfold OwnI
                rw [← HLX.out]; exact this
              clear h4 h6 h7 h11 h12 hG e12
              go_wp2_with fail
              go_roundw
              case rel =>
                refine ⟨X', by have := HXL.out; omega, by rw [HXL.out]; go_num, ?_⟩
                have h1 := HORD.out
                rw [← HXL.out] at h1
                exact ⟨h1, HF.out⟩
              case measure => simp [intOf]; omega
          · obtain ⟨br, hbr⟩ : ∃ br, ad = ⟨br, 0, none⟩ := by
              rcases HOW.out.2 with ⟨e, _⟩ | ⟨g, cap, cur, e, _⟩
              · rw [hoa] at e; injection e with e; cases e
              · rw [hoa] at e; injection e with e; injection e with e; exact ⟨g, e⟩
            subst hbr
            subst hoa
            generalize nq = n2
            have HGV : Hid (Grew w ((wr.drewN n1).drewN n2)) := (HGD2.out.drewN _).drewN _
            have HOV : Hid (OwnI ((wr.drewN n1).drewN n2) w.heap.size (.slice (some ⟨br, 0, none⟩) X.length oc) (ints X)) := rows_grew HOW.out (((HGD.out.drewN n1).drewN n2))
            generalize ((wr.drewN n1).drewN n2) = wv at *
            obtain ⟨B, hB⟩ : ∃ B, wv.heap.size = B := ⟨_, rfl⟩
            have HBB : Hid (B ≤ wv.heap.size) := Nat.le_of_eq hB.symm
            have HDREW : Hid (Below B wv wv.drew) := by subst hB; exact (Grew.refl wv).drew
            obtain ⟨L1, hL1⟩ : ∃ L, (ints X).take k = L := ⟨_, rfl⟩
            obtain ⟨L2, hL2⟩ : ∃ L, (ints X).drop k = L := ⟨_, rfl⟩
            have HLL : Hid (L1.length = k ∧ k + L2.length ≤ 4096) := by
              show _ ∧ _
              rw [← hL1, ← hL2, List.length_take, List.length_drop, List.length_map]; omega
            have HLX : Hid (L1 ++ [(X.length : Int)] ++ L2 = ints (X.take k ++ [X.length] ++ X.drop k)) := by
              show _ = _
              rw [← hL1, ← hL2]; simp [ints, List.map_take, List.map_drop]
            have hrw : RowI wv (.slice (some ⟨br, 0, none⟩) (ints X).length oc) (ints X) := by rw [List.length_map]; exact HOV.out.row
            have HROW1 : Hid (∀ w', Below B wv w' → RowI w' (.slice (some ⟨br, 0, none⟩) k oc) L1) := by
              intro w' hb
              subst hB
              rw [← hL1]
              exact (RowI.take hrw (by rw [List.length_map]; omega)).below hb
            have HROW2 : Hid (∀ w', Below B wv w' → RowI w' (.slice (if oc = k then some ⟨br, 0, none⟩ else some ⟨br, k, none⟩) (X.length - k) (oc - k)) L2) := by
              intro w' hb
              subst hB
              rw [← hL2]
              have := (RowI.drop' hrw (k := k) (by rw [List.length_map]; omega)).below hb
              rwa [List.length_map] at this
            clear hrw
            have HORD : Hid (OrdI l (X.length + 1) (X.take k ++ [X.length] ++ X.drop k)) := by
              have hks := keyAt_get HSX.out.1
              refine HW.out.1.insert k (by omega) (fun y hy => by rw [hks]; exact HV.out y hy) (fun y hy => ?_)
              rw [hks]
              rw [List.getElem?_eq_none (by have := HKE.out; omega)] at hy
              cases hy
            obtain ⟨X', hX'⟩ : ∃ X', X.take k ++ [X.length] ++ X.drop k = X' := ⟨_, rfl⟩
            rw [hX'] at HORD HLX
            have HXL : Hid (X'.length = X.length + 1) := HORD.out.len
            have HBV : Hid (wv.heap.size = B) := hB
            have hkoc : k ≤ oc := by omega
            clear hL1 hL2 hB hX' d0
            refine wp_region_tablesD (Below B) 0 (fun _ => True) (stepA B k) [[], [], [], [1, 2], [0, 1, 2, 3], [], [5], [0, 1, 2, 3, 4, 5, 6], [], [], [8, 9], [0, 1, 2, 3, 4, 5, 6, 7, 8, 9, 10], [0, 1, 2, 3, 4, 5, 6, 7, 8, 9, 10, 11]] [[(53, 1), (54, 2), (55, 3), (57, 5), (58, 6), (60, 8), (61, 9), (62, 10)], [(52, 0), (54, 2), (57, 5), (58, 6), (60, 8), (61, 9), (62, 10)], [(52, 0), (53, 1), (57, 5), (58, 6), (60, 8), (61, 9), (62, 10)], [(52, 0), (53, 1), (54, 2), (57, 5), (58, 6), (60, 8), (61, 9), (62, 10)], [(52, 0), (53, 1), (54, 2), (55, 3), (57, 5), (58, 6), (60, 8), (61, 9), (62, 10)], [(52, 0), (53, 1), (54, 2), (55, 3), (56, 4), (60, 8), (61, 9), (62, 10)], [(52, 0), (53, 1), (54, 2), (55, 3), (56, 4), (57, 5), (60, 8), (61, 9), (62, 10)], [(52, 0), (53, 1), (54, 2), (55, 3), (56, 4), (57, 5), (58, 6), (60, 8), (61, 9), (62, 10)], [(52, 0), (53, 1), (54, 2), (55, 3), (56, 4), (57, 5), (58, 6), (59, 7), (61, 9)], [(52, 0), (53, 1), (54, 2), (55, 3), (56, 4), (57, 5), (58, 6), (59, 7), (60, 8)], [(52, 0), (53, 1), (54, 2), (55, 3), (56, 4), (57, 5), (58, 6), (59, 7), (60, 8), (61, 9)], [(52, 0), (53, 1), (54, 2), (55, 3), (56, 4), (57, 5), (58, 6), (59, 7), (60, 8), (61, 9), (62, 10)], [(52, 0), (53, 1), (54, 2), (55, 3), (56, 4), (57, 5), (58, 6), (59, 7), (60, 8), (61, 9), (62, 10), (63, 11)]] [(52, 0), (53, 1), (54, 2), (55, 3), (56, 4), (57, 5), (58, 6), (59, 7), (60, 8), (61, 9), (62, 10), (63, 11), (4, 12)]
              [fun y v w => v = .slice none 0 0, fun y v w => v = .slice (some ⟨br, 0, none⟩) X.length oc, fun y v w => v = .int .i64 k, fun y v w => v = .slice (some ⟨br, 0, none⟩) k oc, fun y v w => OwnI w B v L1 ∧ (L1.length = 0 → v = .slice none 0 0), fun y v w => v = .int .i64 X.length, fun y v w => OwnI w B v [(X.length : Int)], fun y v w => OwnI w B v (L1 ++ [(X.length : Int)]), fun y v w => v = .slice (some ⟨br, 0, none⟩) X.length oc, fun y v w => v = .int .i64 k, fun y v w => v = .slice (if oc = k then some ⟨br, 0, none⟩ else some ⟨br, k, none⟩) (X.length - k) (oc - k), fun y v w => OwnI w B v (L1 ++ [(X.length : Int)] ++ L2), fun y v w => OwnI w B v (L1 ++ [(X.length : Int)] ++ L2)]
              (by kernel_rfl) (fun h k => Below.trans h k) (Below.refl _) stepA.below stepA.refl (fun _ _ _ _ _ h => h) trivial HDREW.out (by kernel_rfl)
              ⟨fun i hi hnd y v w w' ht h => h, fun i hi hnd y v w w' ht h => h, fun i hi hnd y v w w' ht h => h, fun i hi hnd y v w w' ht h => h, fun i hi hnd y v w w' ht h => ⟨h.1.step ht (fun _ => by have := HLL.out.1; omega) (fun _ => by have := HLL.out.1; omega), h.2⟩, fun i hi hnd y v w w' ht h => h, fun i hi hnd y v w w' ht h => h.step ht (fun _ => by simp; omega) (fun _ => by simp), fun i hi hnd y v w w' ht h => h.step ht (fun e => absurd e hi) (fun _ => by have := HLL.out.1; simp; omega), fun i hi hnd y v w w' ht h => h, fun i hi hnd y v w w' ht h => h, fun i hi hnd y v w w' ht h => h, fun i hi hnd y v w w' ht h => h.step ht (fun e => by subst e; exact absurd hnd (by decide)) (fun e => absurd e hi), fun i hi hnd y v w w' ht h => h.step ht (fun e => by subst e; exact absurd hnd (by decide)) (fun e => by subst e; exact absurd hnd (by decide)), trivial⟩
              ⟨fun _ _ _ _ _ h => h, fun _ _ _ _ _ h => h, fun _ _ _ _ _ h => h, fun _ _ _ _ _ h => h, fun _ _ _ _ _ h => h, fun _ _ _ _ _ h => h, fun _ _ _ _ _ h => h, fun _ _ _ _ _ h => h, fun _ _ _ _ _ h => h, fun _ _ _ _ _ h => h, fun _ _ _ _ _ h => h, fun _ _ _ _ _ h => h, fun _ _ _ _ _ h => h, trivial⟩
              ⟨?_, ?_, ?_, ?_, ?_, ?_, ?_, ?_, ?_, ?_, ?_, ?_, ?_, trivial⟩ rfl ?_
            · intro y w2 hG hI hD K hK
              clear hI
              have hBs : B ≤ w2.heap.size := Nat.le_trans HBB.out hG.size
              simp only [fillL, Act.put, List.setIfInBounds_toArray, List.set_cons_zero, List.set_cons_succ, List.getD_cons_zero, List.getD_cons_succ] at hK ⊢
              refine ite_yes (by rfl) ?_
              go_simp
              exact hK _ _ _ rfl (stepA.refl _ _) rfl
            · intro y w2 hG hI hD K hK
              clear hI
              have hBs : B ≤ w2.heap.size := Nat.le_trans HBB.out hG.size
              simp only [fillL, Act.put, List.setIfInBounds_toArray, List.set_cons_zero, List.set_cons_succ, List.getD_cons_zero, List.getD_cons_succ] at hK ⊢
              refine ite_yes (by rfl) ?_
              go_simp
              exact hK _ _ _ rfl (stepA.refl _ _) rfl
            · intro y w2 hG hI hD K hK
              clear hI
              have hBs : B ≤ w2.heap.size := Nat.le_trans HBB.out hG.size
              simp only [fillL, Act.put, List.setIfInBounds_toArray, List.set_cons_zero, List.set_cons_succ, List.getD_cons_zero, List.getD_cons_succ] at hK ⊢
              refine ite_yes (by rfl) ?_
              go_simp
              exact hK _ _ _ rfl (stepA.refl _ _) rfl
            · intro y w2 hG hI hD K hK
              clear hI
              have hBs : B ≤ w2.heap.size := Nat.le_trans HBB.out hG.size
              simp only [depsT, List.getD_cons_zero, List.getD_cons_succ, and_true] at hD
              have h1 := hD.1
              have h2 := hD.2
              clear hD
              simp only [fillL, Act.put, List.setIfInBounds_toArray, List.set_cons_zero, List.set_cons_succ, List.getD_cons_zero, List.getD_cons_succ] at hK ⊢
              simp only [h1, h2] at hK ⊢
              clear h1 h2
              refine ite_yes (by rfl) ?_
              go_simp
              exact hK _ _ _ rfl (stepA.refl _ _) rfl
            · intro y w2 hG hI hD K hK
              clear hI
              have hBs : B ≤ w2.heap.size := Nat.le_trans HBB.out hG.size
              simp only [depsT, List.getD_cons_zero, List.getD_cons_succ, and_true] at hD
              have h0 := hD.1
              have h1 := hD.2.1
              have h2 := hD.2.2.1
              have h3 := hD.2.2.2
              clear hD
              simp only [fillL, Act.put, List.setIfInBounds_toArray, List.set_cons_zero, List.set_cons_succ, List.getD_cons_zero, List.getD_cons_succ] at hK ⊢
              simp only [h0, h1, h2, h3] at hK ⊢
              clear h0 h1 h2 h3
              refine ite_yes (by rfl) ?_
              refine wp_append_keep _ _ rfl B (.slice none 0 0) [] rfl (OwnI.nil _ _) (.slice (some ⟨br, 0, none⟩) k oc) L1 rfl (HROW1.out _ hG) (by have := HLL.out; simp; omega) hBs (fun _ => rfl) ?_
              intro v' w' ho hk h0
              exact hK _ _ _ rfl ⟨hk.1, .inr (.inr (h0.2 rfl))⟩ ⟨by simpa using ho, fun h => h0.1 (by simpa using h)⟩
            · intro y w2 hG hI hD K hK
              clear hI
              have hBs : B ≤ w2.heap.size := Nat.le_trans HBB.out hG.size
              simp only [fillL, Act.put, List.setIfInBounds_toArray, List.set_cons_zero, List.set_cons_succ, List.getD_cons_zero, List.getD_cons_succ] at hK ⊢
              refine ite_yes (by rfl) ?_
              go_simp
              exact hK _ _ _ rfl (stepA.refl _ _) rfl
            · intro y w2 hG hI hD K hK
              clear hI
              have hBs : B ≤ w2.heap.size := Nat.le_trans HBB.out hG.size
              simp only [depsT, List.getD_cons_zero, List.getD_cons_succ, and_true] at hD
              have h5 := hD
              clear hD
              simp only [fillL, Act.put, List.setIfInBounds_toArray, List.set_cons_zero, List.set_cons_succ, List.getD_cons_zero, List.getD_cons_succ] at hK ⊢
              simp only [h5] at hK ⊢
              clear h5
              refine ite_yes (by rfl) ?_
              go_simp
              exact hK _ _ _ rfl (stepA.grew hBs ((Grew.refl _).alloc _)) (own_one _ _ hBs _)
            · intro y w2 hG hI hD K hK
              clear hI
              have hBs : B ≤ w2.heap.size := Nat.le_trans HBB.out hG.size
              simp only [depsT, List.getD_cons_zero, List.getD_cons_succ, and_true] at hD
              have h0 := hD.1
              have h1 := hD.2.1
              have h2 := hD.2.2.1
              have h3 := hD.2.2.2.1
              have h4 := hD.2.2.2.2.1
              have h5 := hD.2.2.2.2.2.1
              have h6 := hD.2.2.2.2.2.2
              clear hD
              simp only [fillL, Act.put, List.setIfInBounds_toArray, List.set_cons_zero, List.set_cons_succ, List.getD_cons_zero, List.getD_cons_succ] at hK ⊢
              simp only [h0, h1, h2, h3, h5] at hK ⊢
              clear h0 h1 h2 h3 h5
              refine ite_yes (by rfl) ?_
              refine wp_append_keep _ _ rfl B (y 4) L1 rfl h4.1 (y 6) [(X.length : Int)] rfl h6.row (by have := HLL.out; simp; omega) hBs h4.2 ?_
              intro v' w' ho hk _
              exact hK _ _ _ rfl ⟨hk.1, .inl ⟨rfl, by rw [← HLL.out.1]; exact hk⟩⟩ ho
            · intro y w2 hG hI hD K hK
              clear hI
              have hBs : B ≤ w2.heap.size := Nat.le_trans HBB.out hG.size
              simp only [fillL, Act.put, List.setIfInBounds_toArray, List.set_cons_zero, List.set_cons_succ, List.getD_cons_zero, List.getD_cons_succ] at hK ⊢
              refine ite_yes (by rfl) ?_
              go_simp
              exact hK _ _ _ rfl (stepA.refl _ _) rfl
            · intro y w2 hG hI hD K hK
              clear hI
              have hBs : B ≤ w2.heap.size := Nat.le_trans HBB.out hG.size
              simp only [fillL, Act.put, List.setIfInBounds_toArray, List.set_cons_zero, List.set_cons_succ, List.getD_cons_zero, List.getD_cons_succ] at hK ⊢
              refine ite_yes (by rfl) ?_
              go_simp
              exact hK _ _ _ rfl (stepA.refl _ _) rfl
            · intro y w2 hG hI hD K hK
              clear hI
              have hBs : B ≤ w2.heap.size := Nat.le_trans HBB.out hG.size
              simp only [depsT, List.getD_cons_zero, List.getD_cons_succ, and_true] at hD
              have h8 := hD.1
              have h9 := hD.2
              clear hD
              simp only [fillL, Act.put, List.setIfInBounds_toArray, List.set_cons_zero, List.set_cons_succ, List.getD_cons_zero, List.getD_cons_succ] at hK ⊢
              simp only [h8, h9] at hK ⊢
              clear h8 h9
              refine ite_yes (by rfl) ?_
              go_simp
              exact hK _ _ _ rfl (stepA.refl _ _) rfl
            · intro y w2 hG hI hD K hK
              clear hI
              have hBs : B ≤ w2.heap.size := Nat.le_trans HBB.out hG.size
              simp only [depsT, List.getD_cons_zero, List.getD_cons_succ, and_true] at hD
              have h0 := hD.1
              have h1 := hD.2.1
              have h2 := hD.2.2.1
              have h3 := hD.2.2.2.1
              have h4 := hD.2.2.2.2.1
              have h5 := hD.2.2.2.2.2.1
              have h6 := hD.2.2.2.2.2.2.1
              have h7 := hD.2.2.2.2.2.2.2.1
              have h8 := hD.2.2.2.2.2.2.2.2.1
              have h9 := hD.2.2.2.2.2.2.2.2.2.1
              have h10 := hD.2.2.2.2.2.2.2.2.2.2
              clear hD
              simp only [fillL, Act.put, List.setIfInBounds_toArray, List.set_cons_zero, List.set_cons_succ, List.getD_cons_zero, List.getD_cons_succ] at hK ⊢
              simp only [h0, h1, h2, h3, h5, h8, h9, h10] at hK ⊢
              clear h0 h1 h2 h3 h5 h8 h9 h10
              refine ite_yes (by rfl) ?_
              refine wp_append_keep _ _ rfl B (y 7) (L1 ++ [(X.length : Int)]) rfl h7 (.slice (if oc = k then some ⟨br, 0, none⟩ else some ⟨br, k, none⟩) (X.length - k) (oc - k)) L2 rfl (HROW2.out _ hG) (by have := HLL.out; simp; omega) hBs (fun h => by simp at h) ?_
              intro v' w' ho hk _
              refine hK _ _ _ rfl ⟨hk.1, .inr (.inl ⟨rfl, ?_⟩)⟩ ho
              have e : max (L1 ++ [(X.length : Int)]).length 1 = k + 1 := by have := HLL.out.1; simp; omega
              rw [e] at hk; exact hk
            · intro y w2 hG hI hD K hK
              clear hI
              have hBs : B ≤ w2.heap.size := Nat.le_trans HBB.out hG.size
              simp only [depsT, List.getD_cons_zero, List.getD_cons_succ, and_true] at hD
              have h0 := hD.1
              have h1 := hD.2.1
              have h2 := hD.2.2.1
              have h3 := hD.2.2.2.1
              have h4 := hD.2.2.2.2.1
              have h5 := hD.2.2.2.2.2.1
              have h6 := hD.2.2.2.2.2.2.1
              have h7 := hD.2.2.2.2.2.2.2.1
              have h8 := hD.2.2.2.2.2.2.2.2.1
              have h9 := hD.2.2.2.2.2.2.2.2.2.1
              have h10 := hD.2.2.2.2.2.2.2.2.2.2.1
              have h11 := hD.2.2.2.2.2.2.2.2.2.2.2
              clear hD
              simp only [fillL, Act.put, List.setIfInBounds_toArray, List.set_cons_zero, List.set_cons_succ, List.getD_cons_zero, List.getD_cons_succ] at hK ⊢
              simp only [h0, h1, h2, h3, h5, h8, h9, h10] at hK ⊢
              clear h0 h1 h2 h3 h5 h8 h9 h10
              refine ite_yes (by rfl) ?_
              go_simp
              exact hK _ _ _ rfl (stepA.refl _ _) h11
            · intro y w2 hG hF
              simp only [factsT, and_true, Nat.reduceAdd] at hF
              have h0 := hF.1
              have h1 := hF.2.1
              have h2 := hF.2.2.1
              have h3 := hF.2.2.2.1
              have h4 := hF.2.2.2.2.1
              have h5 := hF.2.2.2.2.2.1
              have h6 := hF.2.2.2.2.2.2.1
              have h7 := hF.2.2.2.2.2.2.2.1
              have h8 := hF.2.2.2.2.2.2.2.2.1
              have h9 := hF.2.2.2.2.2.2.2.2.2.1
              have h10 := hF.2.2.2.2.2.2.2.2.2.2.1
              have h11 := hF.2.2.2.2.2.2.2.2.2.2.2.1
              have h12 := hF.2.2.2.2.2.2.2.2.2.2.2.2
              clear hF
              simp only [fillL, Act.put, List.setIfInBounds_toArray, List.set_cons_zero, List.set_cons_succ, List.getD_cons_zero, List.getD_cons_succ]
              simp only [h0, h1, h2, h3, h5, h8, h9, h10]
              clear h0 h1 h2 h3 h5 h8 h9 h10
              obtain ⟨a12, c12, e12, _⟩ := rows_form h12
              rw [e12] at h12 ⊢
              have HF : Hid (Grew w w2 ∧ OwnI w2 w.heap.size (.slice a12 (L1 ++ [(X.length : Int)] ++ L2).length c12) (ints X')) := by
                have hgv := HGV.out
                have hb := HBV.out
                subst hb
                refine ⟨hgv.trans hG, ?_⟩
                have := rows_base h12 hgv.size
                unfold OwnI
                rw [← HLX.out]; exact this
              clear h4 h6 h7 h11 h12 hG e12
              go_wp2_with fail
              go_roundw
              case rel =>
                refine ⟨X', by have := HXL.out; omega, by rw [HXL.out]; go_num, ?_⟩
                have h1 := HORD.out
                rw [← HXL.out] at h1
                exact ⟨h1, HF.out⟩
              case measure => simp [intOf]; omega
    · have hXl : X.length = l.length := by omega
      have hd := OrdI.done (l := l) (X := X) (by rw [← hXl]; exact HW.out.1)
      have HD := Lib.hid hd.2
      have HOW2 := Lib.hid HOW.out.row
      have hnl : ¬ (X.length : Int) < l.length := by omega
      clear hXl hd
      go_wp2_with fail
      go_ret2
      exact ⟨HW.out.2.1, .slice oa X.length oc, by rw [HD.out]; rfl, by rw [HD.out]; exact HOW2.out⟩
end Go.Proofs.Ytnelhbkneokpiaa
