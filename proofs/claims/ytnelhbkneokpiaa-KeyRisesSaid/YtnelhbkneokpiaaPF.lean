/-
  Texts of the proof, part 6 of 6.
-/
import Derived.Test.YtnelhbkneokpiaaPE
import Derived.Test.YtnelhbkneokpiaaPC
import Derived.Deep.CutBlock
import Derived.Deep.DeepCutAuto
import Derived.Test.YtnelhbkneokpiaaPB
import Derived.Deep.QuietTactic
import Derived.BigQuiet

/-
  Keys: the examples of the chapter hold. Conditions: none.
-/
namespace Go.Proofs.Ytnelhbkneokpiaa
open Go Go.ChangeShapes Go.WideShapes Go.ChangeAt Go.RowKit Go.Joins Go.Deep
set_option linter.unusedVariables false
set_option linter.unusedSimpArgs false

theorem lenoks (l : List ByteArray) (h : (l.all fun s => decide (s.size ≤ 9223372036854775807)) = true) : ∀ s ∈ l, lenok s.size := by
  intro s hs
  simpa [lenok] using List.all_eq_true.1 h s hs
theorem w07_k0 : keyE ⟨#[97]⟩ = 0 := by decide +kernel
theorem w07_k3 : keyE ⟨#[]⟩ = 0 := by decide +kernel
theorem w07_k7 : keyE ⟨#[97, 0]⟩ = 70 := by decide +kernel
theorem w07_l11 : ltS ⟨#[97]⟩ ⟨#[97, 98]⟩ = true := by decide +kernel
theorem w07_l15 : ltS ⟨#[97, 98]⟩ ⟨#[98]⟩ = true := by decide +kernel
theorem w07_l19 : ltS ⟨#[122]⟩ ⟨#[195, 169]⟩ = true := by decide +kernel
theorem w07_l23 : ltS ⟨#[97]⟩ ⟨#[97]⟩ = false := by decide +kernel
theorem w07_o2 : (decide ((ordK [⟨#[98]⟩, ⟨#[97]⟩, ⟨#[]⟩, ⟨#[97, 98]⟩]).1 = [2, 1, 3, 0]) && decide ((ordK [⟨#[98]⟩, ⟨#[97]⟩, ⟨#[]⟩, ⟨#[97, 98]⟩]).2 = 0)) = true := by decide +kernel
theorem w07_o6 : (decide ((ordK [⟨#[97]⟩, ⟨#[98]⟩, ⟨#[97]⟩]).1 = []) && decide ((ordK [⟨#[97]⟩, ⟨#[98]⟩, ⟨#[97]⟩]).2 = 71)) = true := by decide +kernel
theorem w07_o10 : (decide ((ordK []).1 = []) && decide ((ordK []).2 = 0)) = true := by decide +kernel
theorem w07_f1 : (decide ((findK [⟨#[97]⟩, ⟨#[99]⟩, ⟨#[101]⟩] ⟨#[99]⟩).1 = 1) && decide ((findK [⟨#[97]⟩, ⟨#[99]⟩, ⟨#[101]⟩] ⟨#[99]⟩).2 = true)) = true := by decide +kernel
theorem w07_f5 : (decide ((findK [⟨#[97]⟩, ⟨#[99]⟩, ⟨#[101]⟩] ⟨#[100]⟩).1 = 0) && decide ((findK [⟨#[97]⟩, ⟨#[99]⟩, ⟨#[101]⟩] ⟨#[100]⟩).2 = false)) = true := by decide +kernel
theorem w07_f10 : (decide ((findK [⟨#[99]⟩, ⟨#[97]⟩, ⟨#[98]⟩] ⟨#[99]⟩).1 = 0) && decide ((findK [⟨#[99]⟩, ⟨#[97]⟩, ⟨#[98]⟩] ⟨#[99]⟩).2 = false)) = true := by decide +kernel
theorem w07_f11 : (decide ((findK [⟨#[99]⟩, ⟨#[97]⟩, ⟨#[98]⟩] ⟨#[98]⟩).1 = 2) && decide ((findK [⟨#[99]⟩, ⟨#[97]⟩, ⟨#[98]⟩] ⟨#[98]⟩).2 = true)) = true := by decide +kernel
theorem w07_f12 : (decide ((findK [⟨#[99]⟩, ⟨#[97]⟩, ⟨#[98]⟩] ⟨#[97]⟩).1 = 0) && decide ((findK [⟨#[99]⟩, ⟨#[97]⟩, ⟨#[98]⟩] ⟨#[97]⟩).2 = false)) = true := by decide +kernel
theorem w07_c8 : checkE (.mk 10 0 0 ⟨#[]⟩ [] [(.mk 17 0 0 ⟨#[]⟩ [⟨#[98]⟩, ⟨#[97]⟩] [(.mk 3 5 0 ⟨#[]⟩ [] []), (.mk 17 0 0 ⟨#[]⟩ [⟨#[100]⟩, ⟨#[99]⟩] [(.mk 3 1 0 ⟨#[]⟩ [] []), (.mk 3 2 0 ⟨#[]⟩ [] [])])])]) = 0 := by decide +kernel
theorem w07_c9 : checkE (.mk 17 0 0 ⟨#[]⟩ [⟨#[97]⟩, ⟨#[97]⟩] [(.mk 3 5 0 ⟨#[]⟩ [] []), (.mk 3 5 0 ⟨#[]⟩ [] [])]) = 71 := by decide +kernel
theorem w07_want : sortT (.mk 10 0 0 ⟨#[]⟩ [] [(.mk 17 0 0 ⟨#[]⟩ [⟨#[98]⟩, ⟨#[97]⟩] [(.mk 3 5 0 ⟨#[]⟩ [] []), (.mk 17 0 0 ⟨#[]⟩ [⟨#[100]⟩, ⟨#[99]⟩] [(.mk 3 1 0 ⟨#[]⟩ [] []), (.mk 3 2 0 ⟨#[]⟩ [] [])])])]) = (.mk 10 0 0 ⟨#[]⟩ [] [(.mk 17 0 0 ⟨#[]⟩ [⟨#[97]⟩, ⟨#[98]⟩] [(.mk 17 0 0 ⟨#[]⟩ [⟨#[99]⟩, ⟨#[100]⟩] [(.mk 3 2 0 ⟨#[]⟩ [] []), (.mk 3 1 0 ⟨#[]⟩ [] [])]), (.mk 3 5 0 ⟨#[]⟩ [] [])])]) := by kernel_rfl
set_option maxRecDepth 100000 in
set_option maxHeartbeats 4000000 in
theorem works07_any (w : World) : Calls Try.prog 20 #[] w fun r w' => r = .returned (.bool true) ∧ Grew w w' := by
  go_enter Try.func20, Try.ntmps20
  have HG := Lib.hid (Grew.refl w)
  go_wp2_with fail
  have hh := kcheck_any ⟨#[97]⟩ w
  rw [w07_k0] at hh
  refine hh.mono ?_
  clear hh
  rintro r w' ⟨rfl, rfl⟩
  go_wp2_with fail
  have hh := kcheck_any ⟨#[]⟩ w
  rw [w07_k3] at hh
  refine hh.mono ?_
  clear hh
  rintro r w' ⟨rfl, rfl⟩
  go_wp2_with fail
  have hh := kcheck_any ⟨#[97, 0]⟩ w
  rw [w07_k7] at hh
  refine hh.mono ?_
  clear hh
  rintro r w' ⟨rfl, rfl⟩
  go_wp2_with fail
  have hh := kless_any ⟨#[97]⟩ ⟨#[97, 98]⟩ w
  rw [w07_l11] at hh
  refine hh.mono ?_
  clear hh
  rintro r w' ⟨rfl, rfl⟩
  go_wp2_with fail
  have hh := kless_any ⟨#[97, 98]⟩ ⟨#[98]⟩ w
  rw [w07_l15] at hh
  refine hh.mono ?_
  clear hh
  rintro r w' ⟨rfl, rfl⟩
  go_wp2_with fail
  have hh := kless_any ⟨#[122]⟩ ⟨#[195, 169]⟩ w
  rw [w07_l19] at hh
  refine hh.mono ?_
  clear hh
  rintro r w' ⟨rfl, rfl⟩
  go_wp2_with fail
  have hh := kless_any ⟨#[97]⟩ ⟨#[97]⟩ w
  rw [w07_l23] at hh
  refine hh.mono ?_
  clear hh
  rintro r w' ⟨rfl, rfl⟩
  go_wp2_with fail
  obtain ⟨g1, hs1⟩ : ∃ g, w.heap.size = g := ⟨_, rfl⟩
  have sa : Ss [⟨#[98]⟩, ⟨#[97]⟩, ⟨#[]⟩, ⟨#[97, 98]⟩] (.slice (some ⟨w.heap.size, 0, none⟩) 4 4) (w.alloc (.cells #[.string ⟨#[98]⟩, .string ⟨#[97]⟩, .string ⟨#[]⟩, .string ⟨#[97, 98]⟩] 9)) := built_strs w [⟨#[98]⟩, ⟨#[97]⟩, ⟨#[]⟩, ⟨#[97, 98]⟩] (lenoks _ (by decide)) (by decide)
  have hg1 := (Grew.refl w).alloc (.cells #[.string ⟨#[98]⟩, .string ⟨#[97]⟩, .string ⟨#[]⟩, .string ⟨#[97, 98]⟩] 9)
  have hz1 : (w.alloc (.cells #[.string ⟨#[98]⟩, .string ⟨#[97]⟩, .string ⟨#[]⟩, .string ⟨#[97, 98]⟩] 9)).heap.size = w.heap.size + 1 := World.size_alloc _ _
  generalize (w.alloc (.cells #[.string ⟨#[98]⟩, .string ⟨#[97]⟩, .string ⟨#[]⟩, .string ⟨#[97, 98]⟩] 9)) = w1 at *
  rw [hs1] at sa hz1
  try rw [hs1]
  replace HG := Lib.hid (HG.out.trans hg1)
  clear hg1
  have hs2 := hz1
  have ia : Ri [2, 1, 3, 0] (.slice (some ⟨w1.heap.size, 0, none⟩) 4 4) (w1.alloc (.cells #[.int .i64 2, .int .i64 1, .int .i64 3, .int .i64 0] 3)) := built_ints w1 [2, 1, 3, 0] (by decide)
  have hg2 := (Grew.refl w1).alloc (.cells #[.int .i64 2, .int .i64 1, .int .i64 3, .int .i64 0] 3)
  have hz2 : (w1.alloc (.cells #[.int .i64 2, .int .i64 1, .int .i64 3, .int .i64 0] 3)).heap.size = w1.heap.size + 1 := World.size_alloc _ _
  generalize (w1.alloc (.cells #[.int .i64 2, .int .i64 1, .int .i64 3, .int .i64 0] 3)) = w2 at *
  rw [hs2] at ia hz2
  try rw [hs2]
  replace sa := Ss.st _ _ _ _ hg2 sa
  replace HG := Lib.hid (HG.out.trans hg2)
  clear hg2
  have hh := ordered_any [⟨#[98]⟩, ⟨#[97]⟩, ⟨#[]⟩, ⟨#[97, 98]⟩] 0 [2, 1, 3, 0] (by decide) _ _ w2 sa ia
  rw [w07_o2] at hh
  refine hh.mono ?_
  clear hh
  rintro r v1 ⟨rfl, hgc⟩
  replace sa := Ss.st _ _ _ _ hgc sa
  replace ia := Ri.st _ _ _ _ hgc ia
  replace HG := Lib.hid (HG.out.trans hgc)
  clear hgc
  go_wp2_with fail
  clear sa ia
  obtain ⟨g3, hs3⟩ : ∃ g, v1.heap.size = g := ⟨_, rfl⟩
  have sb : Ss [⟨#[97]⟩, ⟨#[98]⟩, ⟨#[97]⟩] (.slice (some ⟨v1.heap.size, 0, none⟩) 3 3) (v1.alloc (.cells #[.string ⟨#[97]⟩, .string ⟨#[98]⟩, .string ⟨#[97]⟩] 9)) := built_strs v1 [⟨#[97]⟩, ⟨#[98]⟩, ⟨#[97]⟩] (lenoks _ (by decide)) (by decide)
  have hg3 := (Grew.refl v1).alloc (.cells #[.string ⟨#[97]⟩, .string ⟨#[98]⟩, .string ⟨#[97]⟩] 9)
  have hz3 : (v1.alloc (.cells #[.string ⟨#[97]⟩, .string ⟨#[98]⟩, .string ⟨#[97]⟩] 9)).heap.size = v1.heap.size + 1 := World.size_alloc _ _
  generalize (v1.alloc (.cells #[.string ⟨#[97]⟩, .string ⟨#[98]⟩, .string ⟨#[97]⟩] 9)) = w3 at *
  rw [hs3] at sb hz3
  try rw [hs3]
  replace HG := Lib.hid (HG.out.trans hg3)
  clear hg3
  have hh := ordered_any [⟨#[97]⟩, ⟨#[98]⟩, ⟨#[97]⟩] 71 [] (by decide) _ _ w3 sb (RowI.nil _)
  rw [w07_o6] at hh
  refine hh.mono ?_
  clear hh
  rintro r v2 ⟨rfl, hgc⟩
  replace sb := Ss.st _ _ _ _ hgc sb
  replace HG := Lib.hid (HG.out.trans hgc)
  clear hgc
  go_wp2_with fail
  clear sb
  have hh := ordered_any [] 0 [] (by decide) _ _ v2 (StrsAt.nil _) (RowI.nil _)
  rw [w07_o10] at hh
  refine hh.mono ?_
  clear hh
  rintro r v3 ⟨rfl, hgc⟩
  replace HG := Lib.hid (HG.out.trans hgc)
  clear hgc
  go_wp2_with fail
  obtain ⟨g4, hs4⟩ : ∃ g, v3.heap.size = g := ⟨_, rfl⟩
  have su : Ss [⟨#[97]⟩, ⟨#[99]⟩, ⟨#[101]⟩] (.slice (some ⟨v3.heap.size, 0, none⟩) 3 3) (v3.alloc (.cells #[.string ⟨#[97]⟩, .string ⟨#[99]⟩, .string ⟨#[101]⟩] 9)) := built_strs v3 [⟨#[97]⟩, ⟨#[99]⟩, ⟨#[101]⟩] (lenoks _ (by decide)) (by decide)
  have hg4 := (Grew.refl v3).alloc (.cells #[.string ⟨#[97]⟩, .string ⟨#[99]⟩, .string ⟨#[101]⟩] 9)
  have hz4 : (v3.alloc (.cells #[.string ⟨#[97]⟩, .string ⟨#[99]⟩, .string ⟨#[101]⟩] 9)).heap.size = v3.heap.size + 1 := World.size_alloc _ _
  generalize (v3.alloc (.cells #[.string ⟨#[97]⟩, .string ⟨#[99]⟩, .string ⟨#[101]⟩] 9)) = w4 at *
  rw [hs4] at su hz4
  try rw [hs4]
  replace HG := Lib.hid (HG.out.trans hg4)
  clear hg4
  have hs5 := hz4
  have so : Ss [⟨#[99]⟩, ⟨#[97]⟩, ⟨#[98]⟩] (.slice (some ⟨w4.heap.size, 0, none⟩) 3 3) (w4.alloc (.cells #[.string ⟨#[99]⟩, .string ⟨#[97]⟩, .string ⟨#[98]⟩] 9)) := built_strs w4 [⟨#[99]⟩, ⟨#[97]⟩, ⟨#[98]⟩] (lenoks _ (by decide)) (by decide)
  have hg5 := (Grew.refl w4).alloc (.cells #[.string ⟨#[99]⟩, .string ⟨#[97]⟩, .string ⟨#[98]⟩] 9)
  have hz5 : (w4.alloc (.cells #[.string ⟨#[99]⟩, .string ⟨#[97]⟩, .string ⟨#[98]⟩] 9)).heap.size = w4.heap.size + 1 := World.size_alloc _ _
  generalize (w4.alloc (.cells #[.string ⟨#[99]⟩, .string ⟨#[97]⟩, .string ⟨#[98]⟩] 9)) = w5 at *
  rw [hs5] at so hz5
  try rw [hs5]
  replace su := Ss.st _ _ _ _ hg5 su
  replace HG := Lib.hid (HG.out.trans hg5)
  clear hg5
  have hh := found_any [⟨#[97]⟩, ⟨#[99]⟩, ⟨#[101]⟩] ⟨#[99]⟩ 1 true _ w5 su
  rw [w07_f1] at hh
  refine hh.mono ?_
  clear hh
  rintro r v4 ⟨rfl, hgc⟩
  replace su := Ss.st _ _ _ _ hgc su
  replace so := Ss.st _ _ _ _ hgc so
  replace HG := Lib.hid (HG.out.trans hgc)
  clear hgc
  go_wp2_with fail
  have hh := found_any [⟨#[97]⟩, ⟨#[99]⟩, ⟨#[101]⟩] ⟨#[100]⟩ 0 false _ v4 su
  rw [w07_f5] at hh
  refine hh.mono ?_
  clear hh
  rintro r v5 ⟨rfl, hgc⟩
  replace su := Ss.st _ _ _ _ hgc su
  replace so := Ss.st _ _ _ _ hgc so
  replace HG := Lib.hid (HG.out.trans hgc)
  clear hgc
  go_wp2_with fail
  have hh := found_any [⟨#[99]⟩, ⟨#[97]⟩, ⟨#[98]⟩] ⟨#[99]⟩ 0 false _ v5 so
  rw [w07_f10] at hh
  refine hh.mono ?_
  clear hh
  rintro r v6 ⟨rfl, hgc⟩
  replace su := Ss.st _ _ _ _ hgc su
  replace so := Ss.st _ _ _ _ hgc so
  replace HG := Lib.hid (HG.out.trans hgc)
  clear hgc
  go_wp2_with fail
  have hh := found_any [⟨#[99]⟩, ⟨#[97]⟩, ⟨#[98]⟩] ⟨#[98]⟩ 2 true _ v6 so
  rw [w07_f11] at hh
  refine hh.mono ?_
  clear hh
  rintro r v7 ⟨rfl, hgc⟩
  replace su := Ss.st _ _ _ _ hgc su
  replace so := Ss.st _ _ _ _ hgc so
  replace HG := Lib.hid (HG.out.trans hgc)
  clear hgc
  go_wp2_with fail
  have hh := found_any [⟨#[99]⟩, ⟨#[97]⟩, ⟨#[98]⟩] ⟨#[97]⟩ 0 false _ v7 so
  rw [w07_f12] at hh
  refine hh.mono ?_
  clear hh
  rintro r v8 ⟨rfl, hgc⟩
  replace su := Ss.st _ _ _ _ hgc su
  replace so := Ss.st _ _ _ _ hgc so
  replace HG := Lib.hid (HG.out.trans hgc)
  clear hgc
  go_wp2_with fail
  clear su so
  obtain ⟨g6, hs6⟩ : ∃ g, v8.heap.size = g := ⟨_, rfl⟩
  have s1 : Ss [⟨#[98]⟩, ⟨#[97]⟩] (.slice (some ⟨v8.heap.size, 0, none⟩) 2 2) (v8.alloc (.cells #[.string ⟨#[98]⟩, .string ⟨#[97]⟩] 9)) := built_strs v8 [⟨#[98]⟩, ⟨#[97]⟩] (lenoks _ (by decide)) (by decide)
  have hg6 := (Grew.refl v8).alloc (.cells #[.string ⟨#[98]⟩, .string ⟨#[97]⟩] 9)
  have hz6 : (v8.alloc (.cells #[.string ⟨#[98]⟩, .string ⟨#[97]⟩] 9)).heap.size = v8.heap.size + 1 := World.size_alloc _ _
  generalize (v8.alloc (.cells #[.string ⟨#[98]⟩, .string ⟨#[97]⟩] 9)) = w6 at *
  rw [hs6] at s1 hz6
  try rw [hs6]
  replace HG := Lib.hid (HG.out.trans hg6)
  clear hg6
  refine (num_any 5 w6).mono ?_
  rintro r v9 ⟨rfl, hgc⟩
  replace s1 := Ss.st _ _ _ _ hgc s1
  replace HG := Lib.hid (HG.out.trans hgc)
  clear hgc
  go_wp2_with fail
  obtain ⟨g7, hs7⟩ : ∃ g, v9.heap.size = g := ⟨_, rfl⟩
  have s2 : Ss [⟨#[100]⟩, ⟨#[99]⟩] (.slice (some ⟨v9.heap.size, 0, none⟩) 2 2) (v9.alloc (.cells #[.string ⟨#[100]⟩, .string ⟨#[99]⟩] 9)) := built_strs v9 [⟨#[100]⟩, ⟨#[99]⟩] (lenoks _ (by decide)) (by decide)
  have hg7 := (Grew.refl v9).alloc (.cells #[.string ⟨#[100]⟩, .string ⟨#[99]⟩] 9)
  have hz7 : (v9.alloc (.cells #[.string ⟨#[100]⟩, .string ⟨#[99]⟩] 9)).heap.size = v9.heap.size + 1 := World.size_alloc _ _
  generalize (v9.alloc (.cells #[.string ⟨#[100]⟩, .string ⟨#[99]⟩] 9)) = w7 at *
  rw [hs7] at s2 hz7
  try rw [hs7]
  replace s1 := Ss.st _ _ _ _ hg7 s1
  replace HG := Lib.hid (HG.out.trans hg7)
  clear hg7
  refine (num_any 1 w7).mono ?_
  rintro r v10 ⟨rfl, hgc⟩
  replace s1 := Ss.st _ _ _ _ hgc s1
  replace s2 := Ss.st _ _ _ _ hgc s2
  replace HG := Lib.hid (HG.out.trans hgc)
  clear hgc
  go_wp2_with fail
  refine (num_any 2 v10).mono ?_
  rintro r v11 ⟨rfl, hgc⟩
  replace s1 := Ss.st _ _ _ _ hgc s1
  replace s2 := Ss.st _ _ _ _ hgc s2
  replace HG := Lib.hid (HG.out.trans hgc)
  clear hgc
  go_wp2_with fail
  obtain ⟨g8, hs8⟩ : ∃ g, v11.heap.size = g := ⟨_, rfl⟩
  have r1 : Rn [(.mk 3 1 0 ⟨#[]⟩ [] []), (.mk 3 2 0 ⟨#[]⟩ [] [])] (.slice (some ⟨v11.heap.size, 0, none⟩) 2 2) (v11.alloc (.cells #[.int .i64 3, .int .i64 1, .int .u64 0, .string ⟨#[]⟩, .slice none 0 0, .slice none 0 0, .int .i64 3, .int .i64 2, .int .u64 0, .string ⟨#[]⟩, .slice none 0 0, .slice none 0 0] 41)) := built_nodes v11 [(.mk 3 1 0 ⟨#[]⟩ [] []), (.mk 3 2 0 ⟨#[]⟩ [] [])] [.agg #[.int .i64 3, .int .i64 1, .int .u64 0, .string ⟨#[]⟩, .slice none 0 0, .slice none 0 0], .agg #[.int .i64 3, .int .i64 2, .int .u64 0, .string ⟨#[]⟩, .slice none 0 0, .slice none 0 0]] (by intro x hx; simp only [List.mem_cons, List.not_mem_nil, or_false] at hx; rcases hx with rfl | rfl <;> exact ⟨_, _, _, _, _, _, _, _, _, _, rfl⟩) ⟨_, _, rfl, (num_nd 1 (by unfold i64ok; decide) _), ⟨_, _, rfl, (num_nd 2 (by unfold i64ok; decide) _), rfl⟩⟩ (by simp)
  have hg8 := (Grew.refl v11).alloc (.cells #[.int .i64 3, .int .i64 1, .int .u64 0, .string ⟨#[]⟩, .slice none 0 0, .slice none 0 0, .int .i64 3, .int .i64 2, .int .u64 0, .string ⟨#[]⟩, .slice none 0 0, .slice none 0 0] 41)
  have hz8 : (v11.alloc (.cells #[.int .i64 3, .int .i64 1, .int .u64 0, .string ⟨#[]⟩, .slice none 0 0, .slice none 0 0, .int .i64 3, .int .i64 2, .int .u64 0, .string ⟨#[]⟩, .slice none 0 0, .slice none 0 0] 41)).heap.size = v11.heap.size + 1 := World.size_alloc _ _
  generalize (v11.alloc (.cells #[.int .i64 3, .int .i64 1, .int .u64 0, .string ⟨#[]⟩, .slice none 0 0, .slice none 0 0, .int .i64 3, .int .i64 2, .int .u64 0, .string ⟨#[]⟩, .slice none 0 0, .slice none 0 0] 41)) = w8 at *
  rw [hs8] at r1 hz8
  try rw [hs8]
  replace s1 := Ss.st _ _ _ _ hg8 s1
  replace s2 := Ss.st _ _ _ _ hg8 s2
  replace HG := Lib.hid (HG.out.trans hg8)
  clear hg8
  have n1 := table_nd s2 r1
  refine (table_any _ _ _ _ _ _ w8).mono ?_
  rintro r v12 ⟨rfl, hgc⟩
  replace s1 := Ss.st _ _ _ _ hgc s1
  replace s2 := Ss.st _ _ _ _ hgc s2
  replace r1 := Rn.st _ _ _ _ hgc r1
  replace n1 := Nd.st _ _ _ _ hgc n1
  replace HG := Lib.hid (HG.out.trans hgc)
  clear hgc
  go_wp2_with fail
  obtain ⟨g9, hs9⟩ : ∃ g, v12.heap.size = g := ⟨_, rfl⟩
  have r2 : Rn [(.mk 3 5 0 ⟨#[]⟩ [] []), (.mk 17 0 0 ⟨#[]⟩ [⟨#[100]⟩, ⟨#[99]⟩] [(.mk 3 1 0 ⟨#[]⟩ [] []), (.mk 3 2 0 ⟨#[]⟩ [] [])])] (.slice (some ⟨v12.heap.size, 0, none⟩) 2 2) (v12.alloc (.cells #[.int .i64 3, .int .i64 5, .int .u64 0, .string ⟨#[]⟩, .slice none 0 0, .slice none 0 0, .int .i64 17, .int .i64 0, .int .u64 0, .string ⟨#[]⟩, .slice (some ⟨g7, 0, none⟩) 2 2, .slice (some ⟨g8, 0, none⟩) 2 2] 41)) := built_nodes v12 [(.mk 3 5 0 ⟨#[]⟩ [] []), (.mk 17 0 0 ⟨#[]⟩ [⟨#[100]⟩, ⟨#[99]⟩] [(.mk 3 1 0 ⟨#[]⟩ [] []), (.mk 3 2 0 ⟨#[]⟩ [] [])])] [.agg #[.int .i64 3, .int .i64 5, .int .u64 0, .string ⟨#[]⟩, .slice none 0 0, .slice none 0 0], .agg #[.int .i64 17, .int .i64 0, .int .u64 0, .string ⟨#[]⟩, .slice (some ⟨g7, 0, none⟩) 2 2, .slice (some ⟨g8, 0, none⟩) 2 2]] (by intro x hx; simp only [List.mem_cons, List.not_mem_nil, or_false] at hx; rcases hx with rfl | rfl <;> exact ⟨_, _, _, _, _, _, _, _, _, _, rfl⟩) ⟨_, _, rfl, (num_nd 5 (by unfold i64ok; decide) _), ⟨_, _, rfl, (Nd.st _ _ _ _ ((Grew.refl _)) n1), rfl⟩⟩ (by simp)
  have hg9 := (Grew.refl v12).alloc (.cells #[.int .i64 3, .int .i64 5, .int .u64 0, .string ⟨#[]⟩, .slice none 0 0, .slice none 0 0, .int .i64 17, .int .i64 0, .int .u64 0, .string ⟨#[]⟩, .slice (some ⟨g7, 0, none⟩) 2 2, .slice (some ⟨g8, 0, none⟩) 2 2] 41)
  have hz9 : (v12.alloc (.cells #[.int .i64 3, .int .i64 5, .int .u64 0, .string ⟨#[]⟩, .slice none 0 0, .slice none 0 0, .int .i64 17, .int .i64 0, .int .u64 0, .string ⟨#[]⟩, .slice (some ⟨g7, 0, none⟩) 2 2, .slice (some ⟨g8, 0, none⟩) 2 2] 41)).heap.size = v12.heap.size + 1 := World.size_alloc _ _
  generalize (v12.alloc (.cells #[.int .i64 3, .int .i64 5, .int .u64 0, .string ⟨#[]⟩, .slice none 0 0, .slice none 0 0, .int .i64 17, .int .i64 0, .int .u64 0, .string ⟨#[]⟩, .slice (some ⟨g7, 0, none⟩) 2 2, .slice (some ⟨g8, 0, none⟩) 2 2] 41)) = w9 at *
  rw [hs9] at r2 hz9
  try rw [hs9]
  replace s1 := Ss.st _ _ _ _ hg9 s1
  replace s2 := Ss.st _ _ _ _ hg9 s2
  replace r1 := Rn.st _ _ _ _ hg9 r1
  replace n1 := Nd.st _ _ _ _ hg9 n1
  replace HG := Lib.hid (HG.out.trans hg9)
  clear hg9
  have n2 := table_nd s1 r2
  refine (table_any _ _ _ _ _ _ w9).mono ?_
  rintro r v13 ⟨rfl, hgc⟩
  replace s1 := Ss.st _ _ _ _ hgc s1
  replace s2 := Ss.st _ _ _ _ hgc s2
  replace r1 := Rn.st _ _ _ _ hgc r1
  replace n1 := Nd.st _ _ _ _ hgc n1
  replace r2 := Rn.st _ _ _ _ hgc r2
  replace n2 := Nd.st _ _ _ _ hgc n2
  replace HG := Lib.hid (HG.out.trans hgc)
  clear hgc
  go_wp2_with fail
  obtain ⟨g10, hs10⟩ : ∃ g, v13.heap.size = g := ⟨_, rfl⟩
  have r3 : Rn [(.mk 17 0 0 ⟨#[]⟩ [⟨#[98]⟩, ⟨#[97]⟩] [(.mk 3 5 0 ⟨#[]⟩ [] []), (.mk 17 0 0 ⟨#[]⟩ [⟨#[100]⟩, ⟨#[99]⟩] [(.mk 3 1 0 ⟨#[]⟩ [] []), (.mk 3 2 0 ⟨#[]⟩ [] [])])])] (.slice (some ⟨v13.heap.size, 0, none⟩) 1 1) (v13.alloc (.cells #[.int .i64 17, .int .i64 0, .int .u64 0, .string ⟨#[]⟩, .slice (some ⟨g6, 0, none⟩) 2 2, .slice (some ⟨g9, 0, none⟩) 2 2] 41)) := built_nodes v13 [(.mk 17 0 0 ⟨#[]⟩ [⟨#[98]⟩, ⟨#[97]⟩] [(.mk 3 5 0 ⟨#[]⟩ [] []), (.mk 17 0 0 ⟨#[]⟩ [⟨#[100]⟩, ⟨#[99]⟩] [(.mk 3 1 0 ⟨#[]⟩ [] []), (.mk 3 2 0 ⟨#[]⟩ [] [])])])] [.agg #[.int .i64 17, .int .i64 0, .int .u64 0, .string ⟨#[]⟩, .slice (some ⟨g6, 0, none⟩) 2 2, .slice (some ⟨g9, 0, none⟩) 2 2]] (by intro x hx; simp only [List.mem_cons, List.not_mem_nil, or_false] at hx; subst hx; exact ⟨_, _, _, _, _, _, _, _, _, _, rfl⟩) ⟨_, _, rfl, n2, rfl⟩ (by simp)
  have hg10 := (Grew.refl v13).alloc (.cells #[.int .i64 17, .int .i64 0, .int .u64 0, .string ⟨#[]⟩, .slice (some ⟨g6, 0, none⟩) 2 2, .slice (some ⟨g9, 0, none⟩) 2 2] 41)
  have hz10 : (v13.alloc (.cells #[.int .i64 17, .int .i64 0, .int .u64 0, .string ⟨#[]⟩, .slice (some ⟨g6, 0, none⟩) 2 2, .slice (some ⟨g9, 0, none⟩) 2 2] 41)).heap.size = v13.heap.size + 1 := World.size_alloc _ _
  generalize (v13.alloc (.cells #[.int .i64 17, .int .i64 0, .int .u64 0, .string ⟨#[]⟩, .slice (some ⟨g6, 0, none⟩) 2 2, .slice (some ⟨g9, 0, none⟩) 2 2] 41)) = w10 at *
  rw [hs10] at r3 hz10
  try rw [hs10]
  replace s1 := Ss.st _ _ _ _ hg10 s1
  replace s2 := Ss.st _ _ _ _ hg10 s2
  replace r1 := Rn.st _ _ _ _ hg10 r1
  replace n1 := Nd.st _ _ _ _ hg10 n1
  replace r2 := Rn.st _ _ _ _ hg10 r2
  replace n2 := Nd.st _ _ _ _ hg10 n2
  replace HG := Lib.hid (HG.out.trans hg10)
  clear hg10
  clear s1 s2 r1 r2 n1 n2
  have n3 := vec_nd r3
  refine (sorted_any (.mk 10 0 0 ⟨#[]⟩ [] [(.mk 17 0 0 ⟨#[]⟩ [⟨#[98]⟩, ⟨#[97]⟩] [(.mk 3 5 0 ⟨#[]⟩ [] []), (.mk 17 0 0 ⟨#[]⟩ [⟨#[100]⟩, ⟨#[99]⟩] [(.mk 3 1 0 ⟨#[]⟩ [] []), (.mk 3 2 0 ⟨#[]⟩ [] [])])])]) _ w10 n3 (by decide)).mono ?_
  intro r v14 hs
  obtain ⟨hgc, sv, rfl, hsv⟩ := sorted_ndZ hs w07_c8
  clear hs
  clear r3 n3
  replace HG := Lib.hid (HG.out.trans hgc)
  clear hgc
  have hns := hsv.nd
  clear hsv
  obtain ⟨zk, zn, zu, zs, za4, zn4, zc4, za5, zn5, zc5, rfl⟩ := NodeAt.node6 hns
  go_wp2_with fail
  obtain ⟨g11, hs11⟩ : ∃ g, v14.heap.size = g := ⟨_, rfl⟩
  have hva := heap_alloc_new v14 (.cells #[.int .i64 zk, .int .i64 zn, .int .u64 zu, .string zs, .slice za4 zn4 zc4, .slice za5 zn5 zc5] 41)
  have hg11 := (Grew.refl v14).alloc (.cells #[.int .i64 zk, .int .i64 zn, .int .u64 zu, .string zs, .slice za4 zn4 zc4, .slice za5 zn5 zc5] 41)
  have hz11 : (v14.alloc (.cells #[.int .i64 zk, .int .i64 zn, .int .u64 zu, .string zs, .slice za4 zn4 zc4, .slice za5 zn5 zc5] 41)).heap.size = v14.heap.size + 1 := World.size_alloc _ _
  generalize (v14.alloc (.cells #[.int .i64 zk, .int .i64 zn, .int .u64 zu, .string zs, .slice za4 zn4 zc4, .slice za5 zn5 zc5] 41)) = w11 at *
  rw [hs11] at hva hz11
  try rw [hs11]
  replace hns := Nd.st _ _ _ _ hg11 hns
  replace HG := Lib.hid (HG.out.trans hg11)
  clear hg11
  have hs12 := hz11
  have s3 : Ss [⟨#[97]⟩, ⟨#[97]⟩] (.slice (some ⟨w11.heap.size, 0, none⟩) 2 2) (w11.alloc (.cells #[.string ⟨#[97]⟩, .string ⟨#[97]⟩] 9)) := built_strs w11 [⟨#[97]⟩, ⟨#[97]⟩] (lenoks _ (by decide)) (by decide)
  have hg12 := (Grew.refl w11).alloc (.cells #[.string ⟨#[97]⟩, .string ⟨#[97]⟩] 9)
  have hz12 : (w11.alloc (.cells #[.string ⟨#[97]⟩, .string ⟨#[97]⟩] 9)).heap.size = w11.heap.size + 1 := World.size_alloc _ _
  generalize (w11.alloc (.cells #[.string ⟨#[97]⟩, .string ⟨#[97]⟩] 9)) = w12 at *
  rw [hs12] at s3 hz12
  try rw [hs12]
  replace hns := Nd.st _ _ _ _ hg12 hns
  replace hva := hg12.heap hva
  replace HG := Lib.hid (HG.out.trans hg12)
  clear hg12
  refine (num_any 5 w12).mono ?_
  rintro r v15 ⟨rfl, hgc⟩
  replace hns := Nd.st _ _ _ _ hgc hns
  replace hva := hgc.heap hva
  replace s3 := Ss.st _ _ _ _ hgc s3
  replace HG := Lib.hid (HG.out.trans hgc)
  clear hgc
  go_wp2_with fail
  refine (num_any 5 v15).mono ?_
  rintro r v16 ⟨rfl, hgc⟩
  replace hns := Nd.st _ _ _ _ hgc hns
  replace hva := hgc.heap hva
  replace s3 := Ss.st _ _ _ _ hgc s3
  replace HG := Lib.hid (HG.out.trans hgc)
  clear hgc
  go_wp2_with fail
  obtain ⟨g13, hs13⟩ : ∃ g, v16.heap.size = g := ⟨_, rfl⟩
  have r4 : Rn [(.mk 3 5 0 ⟨#[]⟩ [] []), (.mk 3 5 0 ⟨#[]⟩ [] [])] (.slice (some ⟨v16.heap.size, 0, none⟩) 2 2) (v16.alloc (.cells #[.int .i64 3, .int .i64 5, .int .u64 0, .string ⟨#[]⟩, .slice none 0 0, .slice none 0 0, .int .i64 3, .int .i64 5, .int .u64 0, .string ⟨#[]⟩, .slice none 0 0, .slice none 0 0] 41)) := built_nodes v16 [(.mk 3 5 0 ⟨#[]⟩ [] []), (.mk 3 5 0 ⟨#[]⟩ [] [])] [.agg #[.int .i64 3, .int .i64 5, .int .u64 0, .string ⟨#[]⟩, .slice none 0 0, .slice none 0 0], .agg #[.int .i64 3, .int .i64 5, .int .u64 0, .string ⟨#[]⟩, .slice none 0 0, .slice none 0 0]] (by intro x hx; simp only [List.mem_cons, List.not_mem_nil, or_false] at hx; rcases hx with rfl | rfl <;> exact ⟨_, _, _, _, _, _, _, _, _, _, rfl⟩) ⟨_, _, rfl, (num_nd 5 (by unfold i64ok; decide) _), ⟨_, _, rfl, (num_nd 5 (by unfold i64ok; decide) _), rfl⟩⟩ (by simp)
  have hg13 := (Grew.refl v16).alloc (.cells #[.int .i64 3, .int .i64 5, .int .u64 0, .string ⟨#[]⟩, .slice none 0 0, .slice none 0 0, .int .i64 3, .int .i64 5, .int .u64 0, .string ⟨#[]⟩, .slice none 0 0, .slice none 0 0] 41)
  have hz13 : (v16.alloc (.cells #[.int .i64 3, .int .i64 5, .int .u64 0, .string ⟨#[]⟩, .slice none 0 0, .slice none 0 0, .int .i64 3, .int .i64 5, .int .u64 0, .string ⟨#[]⟩, .slice none 0 0, .slice none 0 0] 41)).heap.size = v16.heap.size + 1 := World.size_alloc _ _
  generalize (v16.alloc (.cells #[.int .i64 3, .int .i64 5, .int .u64 0, .string ⟨#[]⟩, .slice none 0 0, .slice none 0 0, .int .i64 3, .int .i64 5, .int .u64 0, .string ⟨#[]⟩, .slice none 0 0, .slice none 0 0] 41)) = w13 at *
  rw [hs13] at r4 hz13
  try rw [hs13]
  replace hns := Nd.st _ _ _ _ hg13 hns
  replace hva := hg13.heap hva
  replace s3 := Ss.st _ _ _ _ hg13 s3
  replace HG := Lib.hid (HG.out.trans hg13)
  clear hg13
  have n4 := table_nd s3 r4
  refine (table_any _ _ _ _ _ _ w13).mono ?_
  rintro r v17 ⟨rfl, hgc⟩
  replace hns := Nd.st _ _ _ _ hgc hns
  replace hva := hgc.heap hva
  replace s3 := Ss.st _ _ _ _ hgc s3
  replace r4 := Rn.st _ _ _ _ hgc r4
  replace n4 := Nd.st _ _ _ _ hgc n4
  replace HG := Lib.hid (HG.out.trans hgc)
  clear hgc
  go_wp2_with fail
  refine (sorted_any (.mk 17 0 0 ⟨#[]⟩ [⟨#[97]⟩, ⟨#[97]⟩] [(.mk 3 5 0 ⟨#[]⟩ [] []), (.mk 3 5 0 ⟨#[]⟩ [] [])]) _ v17 n4 (by decide)).mono ?_
  intro r v18 hs
  obtain ⟨hgc, rfl⟩ : Grew v17 v18 ∧ r = .returned (.tuple #[zeroNode, .int .i64 71]) := by
    rcases hs.2 with ⟨_, e⟩ | ⟨e, _⟩
    · exact ⟨hs.1, by rw [e, w07_c9]⟩
    · rw [w07_c9] at e; cases e
  clear hs
  clear s3 r4 n4
  replace hns := Nd.st _ _ _ _ hgc hns
  replace hva := hgc.heap hva
  replace HG := Lib.hid (HG.out.trans hgc)
  clear hgc
  rw [show zeroNode = .agg #[.int .i64 0, .int .i64 0, .int .u64 0, .string ⟨#[]⟩, .slice none 0 0, .slice none 0 0] from rfl]
  go_wp2_with fail
  obtain ⟨g14, hs14⟩ : ∃ g, v18.heap.size = g := ⟨_, rfl⟩
  have hvz := heap_alloc_new v18 (.cells #[.int .i64 0, .int .i64 0, .int .u64 0, .string ⟨#[]⟩, .slice none 0 0, .slice none 0 0] 41)
  have hg14 := (Grew.refl v18).alloc (.cells #[.int .i64 0, .int .i64 0, .int .u64 0, .string ⟨#[]⟩, .slice none 0 0, .slice none 0 0] 41)
  have hz14 : (v18.alloc (.cells #[.int .i64 0, .int .i64 0, .int .u64 0, .string ⟨#[]⟩, .slice none 0 0, .slice none 0 0] 41)).heap.size = v18.heap.size + 1 := World.size_alloc _ _
  generalize (v18.alloc (.cells #[.int .i64 0, .int .i64 0, .int .u64 0, .string ⟨#[]⟩, .slice none 0 0, .slice none 0 0] 41)) = w14 at *
  rw [hs14] at hvz hz14
  try rw [hs14]
  replace hns := Nd.st _ _ _ _ hg14 hns
  replace hva := hg14.heap hva
  replace HG := Lib.hid (HG.out.trans hg14)
  clear hg14
  have hs15 := hz14
  have s5 : Ss [⟨#[97]⟩, ⟨#[98]⟩] (.slice (some ⟨w14.heap.size, 0, none⟩) 2 2) (w14.alloc (.cells #[.string ⟨#[97]⟩, .string ⟨#[98]⟩] 9)) := built_strs w14 [⟨#[97]⟩, ⟨#[98]⟩] (lenoks _ (by decide)) (by decide)
  have hg15 := (Grew.refl w14).alloc (.cells #[.string ⟨#[97]⟩, .string ⟨#[98]⟩] 9)
  have hz15 : (w14.alloc (.cells #[.string ⟨#[97]⟩, .string ⟨#[98]⟩] 9)).heap.size = w14.heap.size + 1 := World.size_alloc _ _
  generalize (w14.alloc (.cells #[.string ⟨#[97]⟩, .string ⟨#[98]⟩] 9)) = w15 at *
  rw [hs15] at s5 hz15
  try rw [hs15]
  replace hns := Nd.st _ _ _ _ hg15 hns
  replace hva := hg15.heap hva
  replace hvz := hg15.heap hvz
  replace HG := Lib.hid (HG.out.trans hg15)
  clear hg15
  have hs16 := hz15
  have s6 : Ss [⟨#[99]⟩, ⟨#[100]⟩] (.slice (some ⟨w15.heap.size, 0, none⟩) 2 2) (w15.alloc (.cells #[.string ⟨#[99]⟩, .string ⟨#[100]⟩] 9)) := built_strs w15 [⟨#[99]⟩, ⟨#[100]⟩] (lenoks _ (by decide)) (by decide)
  have hg16 := (Grew.refl w15).alloc (.cells #[.string ⟨#[99]⟩, .string ⟨#[100]⟩] 9)
  have hz16 : (w15.alloc (.cells #[.string ⟨#[99]⟩, .string ⟨#[100]⟩] 9)).heap.size = w15.heap.size + 1 := World.size_alloc _ _
  generalize (w15.alloc (.cells #[.string ⟨#[99]⟩, .string ⟨#[100]⟩] 9)) = w16 at *
  rw [hs16] at s6 hz16
  try rw [hs16]
  replace hns := Nd.st _ _ _ _ hg16 hns
  replace hva := hg16.heap hva
  replace hvz := hg16.heap hvz
  replace s5 := Ss.st _ _ _ _ hg16 s5
  replace HG := Lib.hid (HG.out.trans hg16)
  clear hg16
  refine (num_any 2 w16).mono ?_
  rintro r v19 ⟨rfl, hgc⟩
  replace hns := Nd.st _ _ _ _ hgc hns
  replace hva := hgc.heap hva
  replace hvz := hgc.heap hvz
  replace s5 := Ss.st _ _ _ _ hgc s5
  replace s6 := Ss.st _ _ _ _ hgc s6
  replace HG := Lib.hid (HG.out.trans hgc)
  clear hgc
  go_wp2_with fail
  refine (num_any 1 v19).mono ?_
  rintro r v20 ⟨rfl, hgc⟩
  replace hns := Nd.st _ _ _ _ hgc hns
  replace hva := hgc.heap hva
  replace hvz := hgc.heap hvz
  replace s5 := Ss.st _ _ _ _ hgc s5
  replace s6 := Ss.st _ _ _ _ hgc s6
  replace HG := Lib.hid (HG.out.trans hgc)
  clear hgc
  go_wp2_with fail
  obtain ⟨g17, hs17⟩ : ∃ g, v20.heap.size = g := ⟨_, rfl⟩
  have r5 : Rn [(.mk 3 2 0 ⟨#[]⟩ [] []), (.mk 3 1 0 ⟨#[]⟩ [] [])] (.slice (some ⟨v20.heap.size, 0, none⟩) 2 2) (v20.alloc (.cells #[.int .i64 3, .int .i64 2, .int .u64 0, .string ⟨#[]⟩, .slice none 0 0, .slice none 0 0, .int .i64 3, .int .i64 1, .int .u64 0, .string ⟨#[]⟩, .slice none 0 0, .slice none 0 0] 41)) := built_nodes v20 [(.mk 3 2 0 ⟨#[]⟩ [] []), (.mk 3 1 0 ⟨#[]⟩ [] [])] [.agg #[.int .i64 3, .int .i64 2, .int .u64 0, .string ⟨#[]⟩, .slice none 0 0, .slice none 0 0], .agg #[.int .i64 3, .int .i64 1, .int .u64 0, .string ⟨#[]⟩, .slice none 0 0, .slice none 0 0]] (by intro x hx; simp only [List.mem_cons, List.not_mem_nil, or_false] at hx; rcases hx with rfl | rfl <;> exact ⟨_, _, _, _, _, _, _, _, _, _, rfl⟩) ⟨_, _, rfl, (num_nd 2 (by unfold i64ok; decide) _), ⟨_, _, rfl, (num_nd 1 (by unfold i64ok; decide) _), rfl⟩⟩ (by simp)
  have hg17 := (Grew.refl v20).alloc (.cells #[.int .i64 3, .int .i64 2, .int .u64 0, .string ⟨#[]⟩, .slice none 0 0, .slice none 0 0, .int .i64 3, .int .i64 1, .int .u64 0, .string ⟨#[]⟩, .slice none 0 0, .slice none 0 0] 41)
  have hz17 : (v20.alloc (.cells #[.int .i64 3, .int .i64 2, .int .u64 0, .string ⟨#[]⟩, .slice none 0 0, .slice none 0 0, .int .i64 3, .int .i64 1, .int .u64 0, .string ⟨#[]⟩, .slice none 0 0, .slice none 0 0] 41)).heap.size = v20.heap.size + 1 := World.size_alloc _ _
  generalize (v20.alloc (.cells #[.int .i64 3, .int .i64 2, .int .u64 0, .string ⟨#[]⟩, .slice none 0 0, .slice none 0 0, .int .i64 3, .int .i64 1, .int .u64 0, .string ⟨#[]⟩, .slice none 0 0, .slice none 0 0] 41)) = w17 at *
  rw [hs17] at r5 hz17
  try rw [hs17]
  replace hns := Nd.st _ _ _ _ hg17 hns
  replace hva := hg17.heap hva
  replace hvz := hg17.heap hvz
  replace s5 := Ss.st _ _ _ _ hg17 s5
  replace s6 := Ss.st _ _ _ _ hg17 s6
  replace HG := Lib.hid (HG.out.trans hg17)
  clear hg17
  have n5 := table_nd s6 r5
  refine (table_any _ _ _ _ _ _ w17).mono ?_
  rintro r v21 ⟨rfl, hgc⟩
  replace hns := Nd.st _ _ _ _ hgc hns
  replace hva := hgc.heap hva
  replace hvz := hgc.heap hvz
  replace s5 := Ss.st _ _ _ _ hgc s5
  replace s6 := Ss.st _ _ _ _ hgc s6
  replace r5 := Rn.st _ _ _ _ hgc r5
  replace n5 := Nd.st _ _ _ _ hgc n5
  replace HG := Lib.hid (HG.out.trans hgc)
  clear hgc
  go_wp2_with fail
  refine (num_any 5 v21).mono ?_
  rintro r v22 ⟨rfl, hgc⟩
  replace hns := Nd.st _ _ _ _ hgc hns
  replace hva := hgc.heap hva
  replace hvz := hgc.heap hvz
  replace s5 := Ss.st _ _ _ _ hgc s5
  replace s6 := Ss.st _ _ _ _ hgc s6
  replace r5 := Rn.st _ _ _ _ hgc r5
  replace n5 := Nd.st _ _ _ _ hgc n5
  replace HG := Lib.hid (HG.out.trans hgc)
  clear hgc
  go_wp2_with fail
  obtain ⟨g18, hs18⟩ : ∃ g, v22.heap.size = g := ⟨_, rfl⟩
  have r6 : Rn [(.mk 17 0 0 ⟨#[]⟩ [⟨#[99]⟩, ⟨#[100]⟩] [(.mk 3 2 0 ⟨#[]⟩ [] []), (.mk 3 1 0 ⟨#[]⟩ [] [])]), (.mk 3 5 0 ⟨#[]⟩ [] [])] (.slice (some ⟨v22.heap.size, 0, none⟩) 2 2) (v22.alloc (.cells #[.int .i64 17, .int .i64 0, .int .u64 0, .string ⟨#[]⟩, .slice (some ⟨g14 + 1 + 1, 0, none⟩) 2 2, .slice (some ⟨g17, 0, none⟩) 2 2, .int .i64 3, .int .i64 5, .int .u64 0, .string ⟨#[]⟩, .slice none 0 0, .slice none 0 0] 41)) := built_nodes v22 [(.mk 17 0 0 ⟨#[]⟩ [⟨#[99]⟩, ⟨#[100]⟩] [(.mk 3 2 0 ⟨#[]⟩ [] []), (.mk 3 1 0 ⟨#[]⟩ [] [])]), (.mk 3 5 0 ⟨#[]⟩ [] [])] [.agg #[.int .i64 17, .int .i64 0, .int .u64 0, .string ⟨#[]⟩, .slice (some ⟨g14 + 1 + 1, 0, none⟩) 2 2, .slice (some ⟨g17, 0, none⟩) 2 2], .agg #[.int .i64 3, .int .i64 5, .int .u64 0, .string ⟨#[]⟩, .slice none 0 0, .slice none 0 0]] (by intro x hx; simp only [List.mem_cons, List.not_mem_nil, or_false] at hx; rcases hx with rfl | rfl <;> exact ⟨_, _, _, _, _, _, _, _, _, _, rfl⟩) ⟨_, _, rfl, n5, ⟨_, _, rfl, (num_nd 5 (by unfold i64ok; decide) _), rfl⟩⟩ (by simp)
  have hg18 := (Grew.refl v22).alloc (.cells #[.int .i64 17, .int .i64 0, .int .u64 0, .string ⟨#[]⟩, .slice (some ⟨g14 + 1 + 1, 0, none⟩) 2 2, .slice (some ⟨g17, 0, none⟩) 2 2, .int .i64 3, .int .i64 5, .int .u64 0, .string ⟨#[]⟩, .slice none 0 0, .slice none 0 0] 41)
  have hz18 : (v22.alloc (.cells #[.int .i64 17, .int .i64 0, .int .u64 0, .string ⟨#[]⟩, .slice (some ⟨g14 + 1 + 1, 0, none⟩) 2 2, .slice (some ⟨g17, 0, none⟩) 2 2, .int .i64 3, .int .i64 5, .int .u64 0, .string ⟨#[]⟩, .slice none 0 0, .slice none 0 0] 41)).heap.size = v22.heap.size + 1 := World.size_alloc _ _
  generalize (v22.alloc (.cells #[.int .i64 17, .int .i64 0, .int .u64 0, .string ⟨#[]⟩, .slice (some ⟨g14 + 1 + 1, 0, none⟩) 2 2, .slice (some ⟨g17, 0, none⟩) 2 2, .int .i64 3, .int .i64 5, .int .u64 0, .string ⟨#[]⟩, .slice none 0 0, .slice none 0 0] 41)) = w18 at *
  rw [hs18] at r6 hz18
  try rw [hs18]
  replace hns := Nd.st _ _ _ _ hg18 hns
  replace hva := hg18.heap hva
  replace hvz := hg18.heap hvz
  replace s5 := Ss.st _ _ _ _ hg18 s5
  replace s6 := Ss.st _ _ _ _ hg18 s6
  replace r5 := Rn.st _ _ _ _ hg18 r5
  replace n5 := Nd.st _ _ _ _ hg18 n5
  replace HG := Lib.hid (HG.out.trans hg18)
  clear hg18
  have n6 := table_nd s5 r6
  refine (table_any _ _ _ _ _ _ w18).mono ?_
  rintro r v23 ⟨rfl, hgc⟩
  replace hns := Nd.st _ _ _ _ hgc hns
  replace hva := hgc.heap hva
  replace hvz := hgc.heap hvz
  replace s5 := Ss.st _ _ _ _ hgc s5
  replace s6 := Ss.st _ _ _ _ hgc s6
  replace r5 := Rn.st _ _ _ _ hgc r5
  replace n5 := Nd.st _ _ _ _ hgc n5
  replace r6 := Rn.st _ _ _ _ hgc r6
  replace n6 := Nd.st _ _ _ _ hgc n6
  replace HG := Lib.hid (HG.out.trans hgc)
  clear hgc
  go_upto_region 11 with fail
  obtain ⟨g19, hs19⟩ : ∃ g, v23.heap.size = g := ⟨_, rfl⟩
  have r7 : Rn [(.mk 17 0 0 ⟨#[]⟩ [⟨#[97]⟩, ⟨#[98]⟩] [(.mk 17 0 0 ⟨#[]⟩ [⟨#[99]⟩, ⟨#[100]⟩] [(.mk 3 2 0 ⟨#[]⟩ [] []), (.mk 3 1 0 ⟨#[]⟩ [] [])]), (.mk 3 5 0 ⟨#[]⟩ [] [])])] (.slice (some ⟨v23.heap.size, 0, none⟩) 1 1) (v23.alloc (.cells #[.int .i64 17, .int .i64 0, .int .u64 0, .string ⟨#[]⟩, .slice (some ⟨g14 + 1, 0, none⟩) 2 2, .slice (some ⟨g18, 0, none⟩) 2 2] 41)) := built_nodes v23 [(.mk 17 0 0 ⟨#[]⟩ [⟨#[97]⟩, ⟨#[98]⟩] [(.mk 17 0 0 ⟨#[]⟩ [⟨#[99]⟩, ⟨#[100]⟩] [(.mk 3 2 0 ⟨#[]⟩ [] []), (.mk 3 1 0 ⟨#[]⟩ [] [])]), (.mk 3 5 0 ⟨#[]⟩ [] [])])] [.agg #[.int .i64 17, .int .i64 0, .int .u64 0, .string ⟨#[]⟩, .slice (some ⟨g14 + 1, 0, none⟩) 2 2, .slice (some ⟨g18, 0, none⟩) 2 2]] (by intro x hx; simp only [List.mem_cons, List.not_mem_nil, or_false] at hx; subst hx; exact ⟨_, _, _, _, _, _, _, _, _, _, rfl⟩) ⟨_, _, rfl, n6, rfl⟩ (by simp)
  have hg19 := (Grew.refl v23).alloc (.cells #[.int .i64 17, .int .i64 0, .int .u64 0, .string ⟨#[]⟩, .slice (some ⟨g14 + 1, 0, none⟩) 2 2, .slice (some ⟨g18, 0, none⟩) 2 2] 41)
  have hz19 : (v23.alloc (.cells #[.int .i64 17, .int .i64 0, .int .u64 0, .string ⟨#[]⟩, .slice (some ⟨g14 + 1, 0, none⟩) 2 2, .slice (some ⟨g18, 0, none⟩) 2 2] 41)).heap.size = v23.heap.size + 1 := World.size_alloc _ _
  generalize (v23.alloc (.cells #[.int .i64 17, .int .i64 0, .int .u64 0, .string ⟨#[]⟩, .slice (some ⟨g14 + 1, 0, none⟩) 2 2, .slice (some ⟨g18, 0, none⟩) 2 2] 41)) = w19 at *
  rw [hs19] at r7 hz19
  try rw [hs19]
  replace hns := Nd.st _ _ _ _ hg19 hns
  replace hva := hg19.heap hva
  replace hvz := hg19.heap hvz
  replace s5 := Ss.st _ _ _ _ hg19 s5
  replace s6 := Ss.st _ _ _ _ hg19 s6
  replace r5 := Rn.st _ _ _ _ hg19 r5
  replace n5 := Nd.st _ _ _ _ hg19 n5
  replace r6 := Rn.st _ _ _ _ hg19 r6
  replace n6 := Nd.st _ _ _ _ hg19 n6
  replace HG := Lib.hid (HG.out.trans hg19)
  clear hg19
  clear s5 s6 r5 r6 n5 n6 hvz
  have n7 := vec_nd r7
  have hs20 := hz19
  have hvw := heap_alloc_new w19 (.cells #[.int .i64 10, .int .i64 0, .int .u64 0, .string ⟨#[]⟩, .slice none 0 0, .slice (some ⟨g19, 0, none⟩) 1 1] 41)
  have hg20 := (Grew.refl w19).alloc (.cells #[.int .i64 10, .int .i64 0, .int .u64 0, .string ⟨#[]⟩, .slice none 0 0, .slice (some ⟨g19, 0, none⟩) 1 1] 41)
  have hz20 : (w19.alloc (.cells #[.int .i64 10, .int .i64 0, .int .u64 0, .string ⟨#[]⟩, .slice none 0 0, .slice (some ⟨g19, 0, none⟩) 1 1] 41)).heap.size = w19.heap.size + 1 := World.size_alloc _ _
  generalize (w19.alloc (.cells #[.int .i64 10, .int .i64 0, .int .u64 0, .string ⟨#[]⟩, .slice none 0 0, .slice (some ⟨g19, 0, none⟩) 1 1] 41)) = w20 at *
  rw [hs20] at hvw hz20
  try rw [hs20]
  replace hns := Nd.st _ _ _ _ hg20 hns
  replace hva := hg20.heap hva
  replace r7 := Rn.st _ _ _ _ hg20 r7
  replace n7 := Nd.st _ _ _ _ hg20 n7
  replace HG := Lib.hid (HG.out.trans hg20)
  clear hg20
  clear r7
  have a0 := row_cellT hva 0 _ rfl
  have a1 := row_cellT hva 1 _ rfl
  have a2 := row_cellT hva 2 _ rfl
  have a3 := row_cellT hva 3 _ rfl
  have a4 := row_cellT hva 4 _ rfl
  have a5 := row_cellT hva 5 _ rfl
  have b0 := row_cellT hvw 0 _ rfl
  have b1 := row_cellT hvw 1 _ rfl
  have b2 := row_cellT hvw 2 _ rfl
  have b3 := row_cellT hvw 3 _ rfl
  have b4 := row_cellT hvw 4 _ rfl
  have b5 := row_cellT hvw 5 _ rfl
  go_wp2_with fail
  refine (eqnode_any _ _ (Nat.le_refl _) _ _ _ _ hns n7).mono ?_
  rintro r v24 ⟨bq, rfl, hbq, hgc⟩
  obtain rfl : bq = true := hbq.2 w07_want
  clear hbq
  replace HG := Lib.hid (HG.out.trans hgc)
  clear hns n7 hva hvw a0 a1 a2 a3 a4 a5 b0 b1 b2 b3 b4 b5 hgc
  go_wp2_with fail
  go_ret
  exact ⟨rfl, HG.out⟩
end Go.Proofs.Ytnelhbkneokpiaa

/-
  How the laws' arguments read: strings, slices of strings; few. Conditions: the argument can be read as data.
-/
namespace Go.Proofs.Ytnelhbkneokpiaa
open Go Go.ChangeShapes Go.WideShapes Go.ChangeAt Go.RowKit Go.Joins Go.Deep
open Go.ChangeMaps (open_string shut_string)
set_option linter.unusedVariables false
set_option linter.unusedSimpArgs false

set_option maxRecDepth 100000 in
theorem open_strs1 {H : Type} {enc : TypeId × Value → H} {W : World} {base : Nat} {v : Value} {d : DataW H} {p : List MemPlace} (o : Value.okWide Try.prog W .any base 22 v) (k : DataW.Trod enc Try.prog W 0 (fun _ => true) true 22 v d p) : ∃ l, StrsAt W v l := by
  obtain ⟨fuel, hf⟩ := k
  obtain ⟨v', l, e, h⟩ := strs_of_trod hf
  obtain ⟨a, n, c, rfl⟩ := okWide_slice Try.underlying22 o
  simp [Value.cells] at e
  subst e
  exact ⟨l, h⟩
theorem lenok_short {s : ByteArray} {m : Nat} (hm : m ≤ 1000) : lenok (shortS s m).size := by unfold lenok; rw [shortS_size]; omega
set_option maxRecDepth 100000 in
theorem few07_any (v : Value) (l : List ByteArray) (w : World) (h : StrsAt w v l) :
    Calls Try.prog 11 #[v] w fun r w' => ∃ v', r = .returned v' ∧ StrsAt w' v' (textsS l 60 40) ∧ Grew w w' := by
  have HC := Lib.hid (texts_any 60 40 v l w h (by omega) (by omega))
  obtain ⟨a, c, rfl⟩ := h.form
  go_enter Try.func11, Try.ntmps11
  go_wp2_with fail
  refine HC.out.mono ?_
  rintro r w2 ⟨v', rfl, ho, hg⟩
  have hs := ho.strs (fun s hs => by
    simp only [textsS, List.mem_map] at hs
    obtain ⟨y, _, rfl⟩ := hs
    exact lenok_short (by omega))
  obtain ⟨a', c', rfl⟩ := hs.form
  clear ho
  go_wp2_with fail
  go_ret
  exact ⟨_, rfl, hs, hg⟩
theorem few_len (l : List ByteArray) : (textsS l 60 40).length ≤ 60 := by rw [textsS_length]; omega
end Go.Proofs.Ytnelhbkneokpiaa

/-
  Keys: 'risen', the keys in the order that Order gives. Conditions: the list can be read and has at most 4096 keys.
-/
namespace Go.Proofs.Ytnelhbkneokpiaa
open Go Go.ChangeShapes Go.WideShapes Go.ChangeAt Go.RowKit Go.Joins Go.Deep
set_option linter.unusedVariables false
set_option linter.unusedSimpArgs false

/-- The keys in increasing order. -/
def riseK (l : List ByteArray) : List ByteArray := (sortP (l.zip (List.range l.length))).map Prod.fst
theorem risePerm (l : List ByteArray) : (riseK l).Perm l := by
  unfold riseK
  refine ((sortP_perm _).map Prod.fst).trans ?_
  rw [List.map_fst_zip (by simp)]
theorem rise_sorted {l : List ByteArray} (h : l.Nodup) : (riseK l).Pairwise fun a b => ltS a b = true := by
  unfold riseK
  rw [List.pairwise_map]
  refine sortP_sorted _ ?_
  rw [List.map_fst_zip (by simp)]
  exact h
theorem ord_at {l : List ByteArray} (h : l.Nodup) : (ordK l).1 = ((sortP (l.zip (List.range l.length))).map fun p => (p.2 : Int)) ∧ (ordK l).2 = 0 := by
  unfold ordK; rw [if_pos h]; exact ⟨rfl, rfl⟩
theorem ord_get {l : List ByteArray} (h : l.Nodup) {i : Nat} (hi : i < l.length) : ∃ j : Nat, (ordK l).1[i]? = some (j : Int) ∧ j < l.length ∧ ∃ s, l[j]? = some s ∧ (riseK l)[i]? = some s := by
  have hlen : (sortP (l.zip (List.range l.length))).length = l.length := by rw [(sortP_perm _).length_eq]; simp
  have hq := List.getElem?_eq_getElem (l := sortP (l.zip (List.range l.length))) (i := i) (by omega)
  obtain ⟨p, hp⟩ : ∃ p, (sortP (l.zip (List.range l.length)))[i]? = some p := ⟨_, hq⟩
  have hm : p ∈ l.zip (List.range l.length) := (sortP_perm _).mem_iff.1 (List.mem_of_getElem? hp)
  obtain ⟨j, hj⟩ := List.mem_iff_getElem?.1 hm
  rw [List.getElem?_zip_eq_some] at hj
  have hjl : j < l.length := (List.getElem?_eq_some_iff.1 hj.1).1
  have e : p.2 = j := by
    have := hj.2
    rw [List.getElem?_range hjl] at this
    injection this with this
    exact this.symm
  refine ⟨j, ?_, hjl, p.1, hj.1, ?_⟩
  · rw [(ord_at h).1, List.getElem?_map, hp]; simp [e]
  · unfold riseK; rw [List.getElem?_map, hp]; rfl
theorem rise_len (l : List ByteArray) : (riseK l).length = l.length := (risePerm l).length_eq
/-- What risen hands back. -/
def RisenOut (w : World) (l : List ByteArray) (r : Ending) (w' : World) : Prop :=
  Grew w w' ∧ ((¬ l.Nodup ∧ r = .returned (.tuple #[.slice none 0 0, .bool false])) ∨ (l.Nodup ∧ ∃ v, r = .returned (.tuple #[v, .bool true]) ∧ StrsAt w' v (riseK l)))
set_option maxRecDepth 100000 in
set_option maxHeartbeats 4000000 in
theorem risen_any (l : List ByteArray) (hl : l.length ≤ 4096) (v : Value) (w : World) (h : StrsAt w v l) :
    Calls Try.prog 28 #[v] w fun r w' => RisenOut w l r w' := by
  have HS := Lib.hid h
  obtain ⟨a, c, rfl⟩ := h.form
  go_enter Try.func28, Try.ntmps28
  go_wp2_with fail
  refine (order_any l hl _ w HS.out).mono ?_
  intro r w1 hout
  by_cases hnd : l.Nodup
  · obtain ⟨hg1, v1, rfl, hr1⟩ := order_ord hl hout
    have HR1 := Lib.hid hr1
    have HG1 := Lib.hid hg1
    have HND := Lib.hid hnd
    obtain ⟨a1, c1, e1, _⟩ := hr1
    subst e1
    have hlen : (ordK l).1.length = l.length := by rw [(ord_at hnd).1, List.length_map, (sortP_perm _).length_eq]; simp
    rw [(ord_at hnd).2]
    rw [hlen]
    rw [hlen] at HR1
    have HLEN := Lib.hid hlen
    have hl' := hl
    clear hout hlen hg1 hnd h
    go_wp2_with fail
    go_loopw [6, 7] (fun r i wr => ∃ q : Nat, q ≤ l.length ∧ i = .int .i64 q ∧ Hid (Grew w1 wr ∧ OwnS wr w1.heap.size r ((riseK l).take q))) (fun _ i _ => l.length - (intOf i).toNat)
    case atStart => exact ⟨0, Nat.zero_le _, rfl, Grew.refl _, by simpa using OwnS.nil _ _⟩
    case round =>
      obtain ⟨q, hq, rfl, HW⟩ := hrel
      obtain ⟨a2, c2, e2, _⟩ := rows_form HW.out.2
      subst e2
      rw [List.length_take, rise_len, show min q l.length = q by omega]
      rw [List.length_take, rise_len, show min q l.length = q by omega] at HW
      have HO := Lib.hid HW.out.2
      have HG := Lib.hid HW.out.1
      have hrl := rise_len l
      have hrl' : ((riseK l).take q).length = q := by rw [List.length_take, hrl]; omega
      by_cases hlt : q < l.length
      · obtain ⟨j, ho1, hj, s, hls, hrs⟩ := ord_get HND.out hlt
        have hsn : (riseK l).take q ++ [s] = (riseK l).take (q + 1) := by rw [List.take_add_one, hrs]; rfl
        have HSN := Lib.hid hsn
        have hr1 := HR1.out
        have hs0 := HS.out
        rw [← HLEN.out] at hr1
        obtain ⟨_, _, ee, _, _, _, hc1⟩ := hr1
        cases ee
        obtain ⟨_, b1, o1, e3, hd1⟩ := hc1 q j ho1
        subst e3
        obtain ⟨_, _, ee, _, _, _, hc0⟩ := hs0
        cases ee
        obtain ⟨hz, b0, o0, e4, hd0⟩ := hc0 j s hls
        subst e4
        replace hd1 := HG.out.cell hd1
        replace hd0 := (HG1.out.trans HG.out).cell hd0
        have HZ := Lib.hid hz
        generalize (riseK l).take q = L at *
        subst hrl'
        have hqi : (L.length : Int) < l.length := by omega
        have hji : (j : Int) < l.length := by omega
        have HL40 : Hid (L.length ≤ 4096) := by show _ ≤ _; omega
        have HO2 : Hid (∀ o, OwnS (wr.alloc o) w1.heap.size (.slice a2 L.length c2) L) := fun o => HO.out.grew ((Grew.refl _).alloc o)
        clear hsn hz ho1 hls hrs HW hc1 hc0
        go_wp2_with (at_builtin; refine wpList_appendS rfl _ _ rfl w1.heap.size (.slice a2 L.length c2) L rfl (HO2.out _) _ [s] rfl (strs_new _ _ HZ.out) (by have := HL40.out; simp; omega) (Nat.le_trans HG.out.size (by simp)) ?_; intro v' w3 hown hgr hqq; obtain ⟨va2, vc2, rfl, _, _, _⟩ := rows_form hown; have HG3 := Lib.hid (And.intro hown (grew_row (HO2.out _) (HG.out.alloc _) hgr)); clear hown hgr hqq)
        go_roundw
        case rel =>
          refine ⟨L.length + 1, by omega, by go_num, ?_⟩
          show _ ∧ _
          rw [← HSN.out]
          have hh := HG3.out
          rw [List.length_append] at hh
          exact ⟨hh.2, hh.1⟩
        case measure => simp [intOf]; omega
      · have eq : q = l.length := by omega
        subst eq
        have hz : ∀ s ∈ riseK l, lenok s.size := fun s hs => by
          obtain ⟨_, _, _, _, _, _, hc0⟩ := HS.out
          obtain ⟨i, hi⟩ := List.mem_iff_getElem?.1 ((risePerm l).mem_iff.1 hs)
          exact (hc0 i s hi).1
        have hfin := HO.out
        rw [List.take_of_length_le (by omega)] at hfin
        have HF : Hid (RisenOut w l (.returned (.tuple #[.slice a2 l.length c2, .bool true])) wr) := ⟨HG1.out.trans HG.out, .inr ⟨HND.out, _, rfl, hfin.strs hz⟩⟩
        clear hfin hz hrl' HW
        go_wp2_with fail
        go_ret2
        exact HF.out
  · obtain ⟨hg1, ⟨_, rfl⟩ | ⟨hn, _⟩⟩ := hout
    · have HF : Hid (RisenOut w l (.returned (.tuple #[.slice none 0 0, .bool false])) w1) := ⟨hg1, .inl ⟨hnd, rfl⟩⟩
      go_wp2_with fail
      go_ret2
      exact HF.out
    · exact absurd hn hnd
end Go.Proofs.Ytnelhbkneokpiaa
