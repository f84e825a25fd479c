/-
  Texts of the proof, part 7 of 8.
-/
import Derived.Test.YtfbeepkogcmlmaaPF
import Derived.Deep.CutBlock
import Derived.Deep.DeepCutAuto
import Derived.Test.YtfbeepkogcmlmaaPD
import Derived.Test.YtfbeepkogcmlmaaPB
import Derived.Test.YtfbeepkogcmlmaaPA
import Derived.StillTail

/-
  Normal forms: the examples of the chapter hold. Conditions: none.
-/
namespace Go.Proofs.Ytfbeepkogcmlmaa
open Go Go.ChangeShapes Go.WideShapes Go.ChangeAt Go.RowKit Go.Joins Go.Deep
set_option linter.unusedVariables false
set_option linter.unusedSimpArgs false

theorem lenoks (l : List ByteArray) (h : (l.all fun s => decide (s.size ≤ 9223372036854775807)) = true) : ∀ s ∈ l, lenok s.size := by
  intro s hs
  simpa [lenok] using List.all_eq_true.1 h s hs
theorem leaf_nd (k n u : Int) (s : ByteArray) (h : i64ok k ∧ i64ok n ∧ u64ok u ∧ lenok s.size) (w : World) : Nd (.mk k n u s [] []) (.agg #[.int .i64 k, .int .i64 n, .int .u64 u, .string s, .slice none 0 0, .slice none 0 0]) w :=
  ⟨h, _, _, [], rfl, StrsAt.nil w, RowsAt.nil w, by simp [KidsAt]⟩
theorem vecK_nd (k : Int) (hk : i64ok k) {l : List Tr} {lv : Value} {w : World} (h2 : Rn l lv w) : Nd (.mk k 0 0 ⟨#[]⟩ [] l) (.agg #[.int .i64 k, .int .i64 0, .int .u64 0, .string ⟨#[]⟩, .slice none 0 0, lv]) w := by
  obtain ⟨vs, h3, h4⟩ := h2
  exact ⟨⟨hk, by unfold i64ok; omega, by unfold u64ok; omega, by unfold lenok; decide⟩, _, lv, vs, rfl, StrsAt.nil w, h3, h4⟩
/-- A new row of nodes, of strings. -/
def RnX (k : Nat) (ts : List Tr) (v : Value) (w : World) : Prop := (∃ g, v = .slice (some ⟨g, 0, none⟩) k k) ∧ Rn ts v w
theorem RnX.st (k : Nat) (ts : List Tr) : ∀ v w w', Grew w w' → RnX k ts v w → RnX k ts v w' := fun v w w' hg h => ⟨h.1, Rn.st _ v w w' hg h.2⟩
def SsX (k : Nat) (l : List ByteArray) (v : Value) (w : World) : Prop := (∃ g, v = .slice (some ⟨g, 0, none⟩) k k) ∧ Ss l v w
theorem SsX.st (k : Nat) (l : List ByteArray) : ∀ v w w', Grew w w' → SsX k l v w → SsX k l v w' := fun v w w' hg h => ⟨h.1, Ss.st _ v w w' hg h.2⟩
theorem w09_a : checkE (.mk 4 0 5 ⟨#[]⟩ [] []) = 0 ∧ norT (.mk 4 0 5 ⟨#[]⟩ [] []) = (.mk 3 5 0 ⟨#[]⟩ [] []) := ⟨by decide +kernel, by kernel_rfl⟩
theorem w09_b : checkE (.mk 4 0 9223372036854775808 ⟨#[]⟩ [] []) = 0 ∧ norT (.mk 4 0 9223372036854775808 ⟨#[]⟩ [] []) = (.mk 4 0 9223372036854775808 ⟨#[]⟩ [] []) := ⟨by decide +kernel, by kernel_rfl⟩
theorem w09_c : checkE (.mk 5 0 0 ⟨#[97]⟩ [] []) = 0 ∧ norT (.mk 5 0 0 ⟨#[97]⟩ [] []) = (.mk 6 0 0 ⟨#[97]⟩ [] []) := ⟨by decide +kernel, by kernel_rfl⟩
theorem w09_d : checkE (.mk 15 0 0 ⟨#[]⟩ [] [(.mk 3 1 0 ⟨#[]⟩ [] []), (.mk 3 2 0 ⟨#[]⟩ [] [])]) = 0 ∧ norT (.mk 15 0 0 ⟨#[]⟩ [] [(.mk 3 1 0 ⟨#[]⟩ [] []), (.mk 3 2 0 ⟨#[]⟩ [] [])]) = (.mk 10 0 0 ⟨#[]⟩ [] [(.mk 3 1 0 ⟨#[]⟩ [] []), (.mk 3 2 0 ⟨#[]⟩ [] [])]) := ⟨by decide +kernel, by kernel_rfl⟩
theorem w09_z : checkE (.mk 0 0 0 ⟨#[]⟩ [] []) = 60 := by decide +kernel
theorem w09_f : ¬ alikeP (.mk 3 1 0 ⟨#[]⟩ [] []) (.mk 6 0 0 ⟨#[49]⟩ [] []) := fun h => absurd (show (norT (.mk 3 1 0 ⟨#[]⟩ [] [])).kind = (norT (.mk 6 0 0 ⟨#[49]⟩ [] [])).kind by rw [h.2.2]) (by decide +kernel)
theorem w09_g : ¬ alikeP (.mk 0 0 0 ⟨#[]⟩ [] []) (.mk 0 0 0 ⟨#[]⟩ [] []) := fun h => absurd h.1 (by decide +kernel)
theorem w09_e : checkE (.mk 17 0 0 ⟨#[]⟩ [⟨#[98]⟩, ⟨#[97]⟩] [(.mk 4 0 1 ⟨#[]⟩ [] []), (.mk 5 0 0 ⟨#[120]⟩ [] [])]) = 0 ∧ norT (.mk 17 0 0 ⟨#[]⟩ [⟨#[98]⟩, ⟨#[97]⟩] [(.mk 4 0 1 ⟨#[]⟩ [] []), (.mk 5 0 0 ⟨#[120]⟩ [] [])]) = (.mk 17 0 0 ⟨#[]⟩ [⟨#[97]⟩, ⟨#[98]⟩] [(.mk 6 0 0 ⟨#[120]⟩ [] []), (.mk 3 1 0 ⟨#[]⟩ [] [])]) := ⟨by decide +kernel, by kernel_rfl⟩
theorem w09_h : alikeP (.mk 10 0 0 ⟨#[]⟩ [] [(.mk 4 0 1 ⟨#[]⟩ [] [])]) (.mk 11 0 0 ⟨#[]⟩ [] [(.mk 3 1 0 ⟨#[]⟩ [] [])]) := ⟨by decide +kernel, by decide +kernel, by kernel_rfl⟩
set_option maxRecDepth 100000 in
set_option maxHeartbeats 8000000 in
theorem works09_any (w : World) : Calls Try.prog 14 #[] w fun r w' => r = .returned (.bool true) ∧ Grew w w' := by
  go_enter Try.func14, Try.ntmps14
  have HG := Lib.hid (Grew.refl w)
  go_wp2_with fail
  refine (uns9_any 5 w).mono ?_
  rintro r v1 ⟨rfl, hgc⟩
  replace HG := Lib.hid (HG.out.trans hgc)
  clear hgc
  go_wp2_with fail
  refine (num9_any 5 v1).mono ?_
  rintro r v2 ⟨rfl, hgc⟩
  replace HG := Lib.hid (HG.out.trans hgc)
  clear hgc
  go_wp2_with fail
  refine (is9_any (.mk 4 0 5 ⟨#[]⟩ [] []) (.mk 3 5 0 ⟨#[]⟩ [] []) _ _ v2 (leaf_nd 4 0 5 ⟨#[]⟩ (by unfold i64ok u64ok lenok; decide) _) (leaf_nd 3 5 0 ⟨#[]⟩ (by unfold i64ok u64ok lenok; decide) _) (by decide)).mono ?_
  rintro r v3 ⟨bq, rfl, hbq, hgc⟩
  replace HG := Lib.hid (HG.out.trans hgc)
  clear hgc
  obtain rfl : bq = true := hbq.2 w09_a
  clear hbq
  go_wp2_with fail
  refine (uns9_any 9223372036854775808 v3).mono ?_
  rintro r v4 ⟨rfl, hgc⟩
  replace HG := Lib.hid (HG.out.trans hgc)
  clear hgc
  go_wp2_with fail
  refine (uns9_any 9223372036854775808 v4).mono ?_
  rintro r v5 ⟨rfl, hgc⟩
  replace HG := Lib.hid (HG.out.trans hgc)
  clear hgc
  go_wp2_with fail
  refine (is9_any (.mk 4 0 9223372036854775808 ⟨#[]⟩ [] []) (.mk 4 0 9223372036854775808 ⟨#[]⟩ [] []) _ _ v5 (leaf_nd 4 0 9223372036854775808 ⟨#[]⟩ (by unfold i64ok u64ok lenok; decide) _) (leaf_nd 4 0 9223372036854775808 ⟨#[]⟩ (by unfold i64ok u64ok lenok; decide) _) (by decide)).mono ?_
  rintro r v6 ⟨bq, rfl, hbq, hgc⟩
  replace HG := Lib.hid (HG.out.trans hgc)
  clear hgc
  obtain rfl : bq = true := hbq.2 w09_b
  clear hbq
  go_wp2_with fail
  refine (text9_any ⟨#[97]⟩ v6).mono ?_
  rintro r v7 ⟨rfl, hgc⟩
  replace HG := Lib.hid (HG.out.trans hgc)
  clear hgc
  go_wp2_with fail
  refine (is9_any (.mk 5 0 0 ⟨#[97]⟩ [] []) (.mk 6 0 0 ⟨#[97]⟩ [] []) _ _ v7 (leaf_nd 5 0 0 ⟨#[97]⟩ (by unfold i64ok u64ok lenok; decide) _) (leaf_nd 6 0 0 ⟨#[97]⟩ (by unfold i64ok u64ok lenok; decide) _) (by decide)).mono ?_
  rintro r v8 ⟨bq, rfl, hbq, hgc⟩
  replace HG := Lib.hid (HG.out.trans hgc)
  clear hgc
  obtain rfl : bq = true := hbq.2 w09_c
  clear hbq
  go_wp2_with fail
  refine (num9_any 1 v8).mono ?_
  rintro r v9 ⟨rfl, hgc⟩
  replace HG := Lib.hid (HG.out.trans hgc)
  clear hgc
  go_wp2_with fail
  refine (num9_any 2 v9).mono ?_
  rintro r v10 ⟨rfl, hgc⟩
  replace HG := Lib.hid (HG.out.trans hgc)
  clear hgc
  go_wp2_with fail
  obtain ⟨g1, hs1⟩ : ∃ g, v10.heap.size = g := ⟨_, rfl⟩
  have r1 : Rn [(.mk 3 1 0 ⟨#[]⟩ [] []), (.mk 3 2 0 ⟨#[]⟩ [] [])] (.slice (some ⟨v10.heap.size, 0, none⟩) 2 2) (v10.alloc (.cells #[.int .i64 3, .int .i64 1, .int .u64 0, .string ⟨#[]⟩, .slice none 0 0, .slice none 0 0, .int .i64 3, .int .i64 2, .int .u64 0, .string ⟨#[]⟩, .slice none 0 0, .slice none 0 0] 26)) := built_nodes v10 [(.mk 3 1 0 ⟨#[]⟩ [] []), (.mk 3 2 0 ⟨#[]⟩ [] [])] [.agg #[.int .i64 3, .int .i64 1, .int .u64 0, .string ⟨#[]⟩, .slice none 0 0, .slice none 0 0], .agg #[.int .i64 3, .int .i64 2, .int .u64 0, .string ⟨#[]⟩, .slice none 0 0, .slice none 0 0]] (by intro x hx; simp only [List.mem_cons, List.not_mem_nil, or_false] at hx; rcases hx with rfl | rfl <;> exact ⟨_, _, _, _, _, _, _, _, _, _, rfl⟩) ⟨_, _, rfl, (leaf_nd 3 1 0 ⟨#[]⟩ (by unfold i64ok u64ok lenok; decide) _), ⟨_, _, rfl, (leaf_nd 3 2 0 ⟨#[]⟩ (by unfold i64ok u64ok lenok; decide) _), rfl⟩⟩ (by simp)
  have hg1 := (Grew.refl v10).alloc (.cells #[.int .i64 3, .int .i64 1, .int .u64 0, .string ⟨#[]⟩, .slice none 0 0, .slice none 0 0, .int .i64 3, .int .i64 2, .int .u64 0, .string ⟨#[]⟩, .slice none 0 0, .slice none 0 0] 26)
  have hz1 : (v10.alloc (.cells #[.int .i64 3, .int .i64 1, .int .u64 0, .string ⟨#[]⟩, .slice none 0 0, .slice none 0 0, .int .i64 3, .int .i64 2, .int .u64 0, .string ⟨#[]⟩, .slice none 0 0, .slice none 0 0] 26)).heap.size = v10.heap.size + 1 := World.size_alloc _ _
  generalize (v10.alloc (.cells #[.int .i64 3, .int .i64 1, .int .u64 0, .string ⟨#[]⟩, .slice none 0 0, .slice none 0 0, .int .i64 3, .int .i64 2, .int .u64 0, .string ⟨#[]⟩, .slice none 0 0, .slice none 0 0] 26)) = w1 at *
  rw [hs1] at r1 hz1
  try rw [hs1]
  replace HG := Lib.hid (HG.out.trans hg1)
  clear hg1
  have n1 := vecK_nd 15 (by unfold i64ok; decide) r1
  refine (list9_any 15 _ _ _ w1).mono ?_
  rintro r v11 ⟨rfl, hgc⟩
  replace r1 := Rn.st _ _ _ _ hgc r1
  replace n1 := Nd.st _ _ _ _ hgc n1
  replace HG := Lib.hid (HG.out.trans hgc)
  clear hgc
  go_wp2_with fail
  refine (num9_any 1 v11).mono ?_
  rintro r v12 ⟨rfl, hgc⟩
  replace r1 := Rn.st _ _ _ _ hgc r1
  replace n1 := Nd.st _ _ _ _ hgc n1
  replace HG := Lib.hid (HG.out.trans hgc)
  clear hgc
  go_wp2_with fail
  refine (num9_any 2 v12).mono ?_
  rintro r v13 ⟨rfl, hgc⟩
  replace r1 := Rn.st _ _ _ _ hgc r1
  replace n1 := Nd.st _ _ _ _ hgc n1
  replace HG := Lib.hid (HG.out.trans hgc)
  clear hgc
  go_wp2_with fail
  obtain ⟨g2, hs2⟩ : ∃ g, v13.heap.size = g := ⟨_, rfl⟩
  have r2 : Rn [(.mk 3 1 0 ⟨#[]⟩ [] []), (.mk 3 2 0 ⟨#[]⟩ [] [])] (.slice (some ⟨v13.heap.size, 0, none⟩) 2 2) (v13.alloc (.cells #[.int .i64 3, .int .i64 1, .int .u64 0, .string ⟨#[]⟩, .slice none 0 0, .slice none 0 0, .int .i64 3, .int .i64 2, .int .u64 0, .string ⟨#[]⟩, .slice none 0 0, .slice none 0 0] 26)) := built_nodes v13 [(.mk 3 1 0 ⟨#[]⟩ [] []), (.mk 3 2 0 ⟨#[]⟩ [] [])] [.agg #[.int .i64 3, .int .i64 1, .int .u64 0, .string ⟨#[]⟩, .slice none 0 0, .slice none 0 0], .agg #[.int .i64 3, .int .i64 2, .int .u64 0, .string ⟨#[]⟩, .slice none 0 0, .slice none 0 0]] (by intro x hx; simp only [List.mem_cons, List.not_mem_nil, or_false] at hx; rcases hx with rfl | rfl <;> exact ⟨_, _, _, _, _, _, _, _, _, _, rfl⟩) ⟨_, _, rfl, (leaf_nd 3 1 0 ⟨#[]⟩ (by unfold i64ok u64ok lenok; decide) _), ⟨_, _, rfl, (leaf_nd 3 2 0 ⟨#[]⟩ (by unfold i64ok u64ok lenok; decide) _), rfl⟩⟩ (by simp)
  have hg2 := (Grew.refl v13).alloc (.cells #[.int .i64 3, .int .i64 1, .int .u64 0, .string ⟨#[]⟩, .slice none 0 0, .slice none 0 0, .int .i64 3, .int .i64 2, .int .u64 0, .string ⟨#[]⟩, .slice none 0 0, .slice none 0 0] 26)
  have hz2 : (v13.alloc (.cells #[.int .i64 3, .int .i64 1, .int .u64 0, .string ⟨#[]⟩, .slice none 0 0, .slice none 0 0, .int .i64 3, .int .i64 2, .int .u64 0, .string ⟨#[]⟩, .slice none 0 0, .slice none 0 0] 26)).heap.size = v13.heap.size + 1 := World.size_alloc _ _
  generalize (v13.alloc (.cells #[.int .i64 3, .int .i64 1, .int .u64 0, .string ⟨#[]⟩, .slice none 0 0, .slice none 0 0, .int .i64 3, .int .i64 2, .int .u64 0, .string ⟨#[]⟩, .slice none 0 0, .slice none 0 0] 26)) = w2 at *
  rw [hs2] at r2 hz2
  try rw [hs2]
  replace r1 := Rn.st _ _ _ _ hg2 r1
  replace n1 := Nd.st _ _ _ _ hg2 n1
  replace HG := Lib.hid (HG.out.trans hg2)
  clear hg2
  have n2 := vecK_nd 10 (by unfold i64ok; decide) r2
  refine (list9_any 10 _ _ _ w2).mono ?_
  rintro r v14 ⟨rfl, hgc⟩
  replace r1 := Rn.st _ _ _ _ hgc r1
  replace n1 := Nd.st _ _ _ _ hgc n1
  replace r2 := Rn.st _ _ _ _ hgc r2
  replace n2 := Nd.st _ _ _ _ hgc n2
  replace HG := Lib.hid (HG.out.trans hgc)
  clear hgc
  go_wp2_with fail
  refine (is9_any (.mk 15 0 0 ⟨#[]⟩ [] [(.mk 3 1 0 ⟨#[]⟩ [] []), (.mk 3 2 0 ⟨#[]⟩ [] [])]) (.mk 10 0 0 ⟨#[]⟩ [] [(.mk 3 1 0 ⟨#[]⟩ [] []), (.mk 3 2 0 ⟨#[]⟩ [] [])]) _ _ v14 n1 n2 (by decide)).mono ?_
  rintro r v15 ⟨bq, rfl, hbq, hgc⟩
  replace r1 := Rn.st _ _ _ _ hgc r1
  replace n1 := Nd.st _ _ _ _ hgc n1
  replace r2 := Rn.st _ _ _ _ hgc r2
  replace n2 := Nd.st _ _ _ _ hgc n2
  replace HG := Lib.hid (HG.out.trans hgc)
  clear hgc
  obtain rfl : bq = true := hbq.2 w09_d
  clear hbq
  go_wp2_with fail
  clear r1 r2 n1 n2
  obtain ⟨g3, hs3⟩ : ∃ g, v15.heap.size = g := ⟨_, rfl⟩
  have s3 : Ss [⟨#[98]⟩, ⟨#[97]⟩] (.slice (some ⟨v15.heap.size, 0, none⟩) 2 2) (v15.alloc (.cells #[.string ⟨#[98]⟩, .string ⟨#[97]⟩] 9)) := built_strs v15 [⟨#[98]⟩, ⟨#[97]⟩] (lenoks _ (by decide)) (by decide)
  have hg3 := (Grew.refl v15).alloc (.cells #[.string ⟨#[98]⟩, .string ⟨#[97]⟩] 9)
  have hz3 : (v15.alloc (.cells #[.string ⟨#[98]⟩, .string ⟨#[97]⟩] 9)).heap.size = v15.heap.size + 1 := World.size_alloc _ _
  generalize (v15.alloc (.cells #[.string ⟨#[98]⟩, .string ⟨#[97]⟩] 9)) = w3 at *
  rw [hs3] at s3 hz3
  try rw [hs3]
  replace HG := Lib.hid (HG.out.trans hg3)
  clear hg3
  refine (uns9_any 1 w3).mono ?_
  rintro r v16 ⟨rfl, hgc⟩
  replace s3 := Ss.st _ _ _ _ hgc s3
  replace HG := Lib.hid (HG.out.trans hgc)
  clear hgc
  go_wp2_with fail
  obtain ⟨g4, hs4⟩ : ∃ g, v16.heap.size = g := ⟨_, rfl⟩
  have r3 : Rn [(.mk 4 0 1 ⟨#[]⟩ [] []), (.mk 5 0 0 ⟨#[120]⟩ [] [])] (.slice (some ⟨v16.heap.size, 0, none⟩) 2 2) (v16.alloc (.cells #[.int .i64 4, .int .i64 0, .int .u64 1, .string ⟨#[]⟩, .slice none 0 0, .slice none 0 0, .int .i64 5, .int .i64 0, .int .u64 0, .string ⟨#[120]⟩, .slice none 0 0, .slice none 0 0] 26)) := built_nodes v16 [(.mk 4 0 1 ⟨#[]⟩ [] []), (.mk 5 0 0 ⟨#[120]⟩ [] [])] [.agg #[.int .i64 4, .int .i64 0, .int .u64 1, .string ⟨#[]⟩, .slice none 0 0, .slice none 0 0], .agg #[.int .i64 5, .int .i64 0, .int .u64 0, .string ⟨#[120]⟩, .slice none 0 0, .slice none 0 0]] (by intro x hx; simp only [List.mem_cons, List.not_mem_nil, or_false] at hx; rcases hx with rfl | rfl <;> exact ⟨_, _, _, _, _, _, _, _, _, _, rfl⟩) ⟨_, _, rfl, (leaf_nd 4 0 1 ⟨#[]⟩ (by unfold i64ok u64ok lenok; decide) _), ⟨_, _, rfl, (leaf_nd 5 0 0 ⟨#[120]⟩ (by unfold i64ok u64ok lenok; decide) _), rfl⟩⟩ (by simp)
  have hg4 := (Grew.refl v16).alloc (.cells #[.int .i64 4, .int .i64 0, .int .u64 1, .string ⟨#[]⟩, .slice none 0 0, .slice none 0 0, .int .i64 5, .int .i64 0, .int .u64 0, .string ⟨#[120]⟩, .slice none 0 0, .slice none 0 0] 26)
  have hz4 : (v16.alloc (.cells #[.int .i64 4, .int .i64 0, .int .u64 1, .string ⟨#[]⟩, .slice none 0 0, .slice none 0 0, .int .i64 5, .int .i64 0, .int .u64 0, .string ⟨#[120]⟩, .slice none 0 0, .slice none 0 0] 26)).heap.size = v16.heap.size + 1 := World.size_alloc _ _
  generalize (v16.alloc (.cells #[.int .i64 4, .int .i64 0, .int .u64 1, .string ⟨#[]⟩, .slice none 0 0, .slice none 0 0, .int .i64 5, .int .i64 0, .int .u64 0, .string ⟨#[120]⟩, .slice none 0 0, .slice none 0 0] 26)) = w4 at *
  rw [hs4] at r3 hz4
  try rw [hs4]
  replace s3 := Ss.st _ _ _ _ hg4 s3
  replace HG := Lib.hid (HG.out.trans hg4)
  clear hg4
  have nin := table_nd s3 r3
  have hs5 := hz4
  have hvt := heap_alloc_new w4 (.cells #[.int .i64 17, .int .i64 0, .int .u64 0, .string ⟨#[]⟩, .slice (some ⟨g3, 0, none⟩) 2 2, .slice (some ⟨g4, 0, none⟩) 2 2] 26)
  have hg5 := (Grew.refl w4).alloc (.cells #[.int .i64 17, .int .i64 0, .int .u64 0, .string ⟨#[]⟩, .slice (some ⟨g3, 0, none⟩) 2 2, .slice (some ⟨g4, 0, none⟩) 2 2] 26)
  have hz5 : (w4.alloc (.cells #[.int .i64 17, .int .i64 0, .int .u64 0, .string ⟨#[]⟩, .slice (some ⟨g3, 0, none⟩) 2 2, .slice (some ⟨g4, 0, none⟩) 2 2] 26)).heap.size = w4.heap.size + 1 := World.size_alloc _ _
  generalize (w4.alloc (.cells #[.int .i64 17, .int .i64 0, .int .u64 0, .string ⟨#[]⟩, .slice (some ⟨g3, 0, none⟩) 2 2, .slice (some ⟨g4, 0, none⟩) 2 2] 26)) = w5 at *
  rw [hs5] at hvt hz5
  try rw [hs5]
  replace s3 := Ss.st _ _ _ _ hg5 s3
  replace r3 := Rn.st _ _ _ _ hg5 r3
  replace nin := Nd.st _ _ _ _ hg5 nin
  replace HG := Lib.hid (HG.out.trans hg5)
  clear hg5
  clear s3 r3
  refine (Of_any (.mk 0 0 0 ⟨#[]⟩ [] []) _ w5 (leaf_nd 0 0 0 ⟨#[]⟩ (by unfold i64ok u64ok lenok; decide) _) (by decide)).mono ?_
  intro r v17 hs
  obtain ⟨hgc, rfl⟩ : Grew w5 v17 ∧ r = .returned (.tuple #[zeroNode, .int .i64 60]) := by
    rcases hs.2 with ⟨_, e⟩ | ⟨e, _⟩
    · exact ⟨hs.1, by rw [e, w09_z]⟩
    · rw [w09_z] at e; cases e
  clear hs
  replace nin := Nd.st _ _ _ _ hgc nin
  replace hvt := hgc.heap hvt
  replace HG := Lib.hid (HG.out.trans hgc)
  clear hgc
  rw [show zeroNode = .agg #[.int .i64 0, .int .i64 0, .int .u64 0, .string ⟨#[]⟩, .slice none 0 0, .slice none 0 0] from rfl]
  go_upto_region 5 with fail
  obtain ⟨g6, hs6⟩ : ∃ g, v17.heap.size = g := ⟨_, rfl⟩
  have hvz := heap_alloc_new v17 (.cells #[.int .i64 0, .int .i64 0, .int .u64 0, .string ⟨#[]⟩, .slice none 0 0, .slice none 0 0] 26)
  have hg6 := (Grew.refl v17).alloc (.cells #[.int .i64 0, .int .i64 0, .int .u64 0, .string ⟨#[]⟩, .slice none 0 0, .slice none 0 0] 26)
  have hz6 : (v17.alloc (.cells #[.int .i64 0, .int .i64 0, .int .u64 0, .string ⟨#[]⟩, .slice none 0 0, .slice none 0 0] 26)).heap.size = v17.heap.size + 1 := World.size_alloc _ _
  generalize (v17.alloc (.cells #[.int .i64 0, .int .i64 0, .int .u64 0, .string ⟨#[]⟩, .slice none 0 0, .slice none 0 0] 26)) = w6 at *
  rw [hs6] at hvz hz6
  try rw [hs6]
  replace nin := Nd.st _ _ _ _ hg6 nin
  replace hvt := hg6.heap hvt
  replace HG := Lib.hid (HG.out.trans hg6)
  clear hg6
  clear hvz
  have a0 := row_cellT hvt 0 _ rfl
  have a1 := row_cellT hvt 1 _ rfl
  have a2 := row_cellT hvt 2 _ rfl
  have a3 := row_cellT hvt 3 _ rfl
  have a4 := row_cellT hvt 4 _ rfl
  have a5 := row_cellT hvt 5 _ rfl
  clear hvt
  refine wp_region_tables Grew [[], [], [], [2], [2, 3], [1, 2, 3, 4], [0, 1, 2, 3, 4, 5], [0, 1, 2, 3, 4, 5, 6], [0, 1, 2, 3, 4, 5, 6, 7], [0, 1, 2, 3, 4, 5, 6, 7, 8], [0, 1, 2, 3, 4, 5, 6, 7, 8, 9], [0, 1, 2, 3, 4, 5, 6, 7, 8, 9, 10], [0, 1, 2, 3, 4, 5, 6, 7, 8, 9, 10, 11], [0, 1, 2, 3, 4, 5, 6, 7, 8, 9, 10, 11, 12], [0, 1, 2, 3, 4, 5, 6, 7, 8, 9, 10, 11, 12, 13], [0, 1, 2, 3, 4, 5, 6, 7, 8, 9, 10, 11, 12, 13, 14], [0, 1, 2, 3, 4, 5, 6, 7, 8, 9, 10, 11, 12, 13, 14, 15], [0, 1, 2, 3, 4, 5, 6, 7, 8, 9, 10, 11, 12, 13, 14, 15, 16], [0, 1, 2, 3, 4, 5, 6, 7, 8, 9, 10, 11, 12, 13, 14, 15, 16, 17], [0, 1, 2, 3, 4, 5, 6, 7, 8, 9, 10, 11, 12, 13, 14, 15, 16, 17, 18], [0, 1, 2, 3, 4, 5, 6, 7, 8, 9, 10, 11, 12, 13, 14, 15, 16, 17, 18, 19], [0, 1, 2, 3, 4, 5, 6, 7, 8, 9, 10, 11, 12, 13, 14, 15, 16, 17, 18, 19, 20], [0, 1, 2, 3, 4, 5, 6, 7, 8, 9, 10, 11, 12, 13, 14, 15, 16, 17, 18, 19, 20, 21], [0, 1, 2, 3, 4, 5, 6, 7, 8, 9, 10, 11, 12, 13, 14, 15, 16, 17, 18, 19, 20, 21, 22], [0, 1, 2, 3, 4, 5, 6, 7, 8, 9, 10, 11, 12, 13, 14, 15, 16, 17, 18, 19, 20, 21, 22, 23], [0, 1, 2, 3, 4, 5, 6, 7, 8, 9, 10, 11, 12, 13, 14, 15, 16, 17, 18, 19, 20, 21, 22, 23, 24], [0, 1, 2, 3, 4, 5, 6, 7, 8, 9, 10, 11, 12, 13, 14, 15, 16, 17, 18, 19, 20, 21, 22, 23, 24, 25], [0, 1, 2, 3, 4, 5, 6, 7, 8, 9, 10, 11, 12, 13, 14, 15, 16, 17, 18, 19, 20, 21, 22, 23, 24, 25, 26], [0, 1, 2, 3, 4, 5, 6, 7, 8, 9, 10, 11, 12, 13, 14, 15, 16, 17, 18, 19, 20, 21, 22, 23, 24, 25, 26], [0, 1, 2, 3, 4, 5, 6, 7, 8, 9, 10, 11, 12, 13, 14, 15, 16, 17, 18, 19, 20, 21, 22, 23, 24, 25, 26, 27, 28], [0, 1, 2, 3, 4, 5, 6, 7, 8, 9, 10, 11, 12, 13, 14, 15, 16, 17, 18, 19, 20, 21, 22, 23, 24, 25, 26, 27, 28, 29], [0, 1, 2, 3, 4, 5, 6, 7, 8, 9, 10, 11, 12, 13, 14, 15, 16, 17, 18, 19, 20, 21, 22, 23, 24, 25, 26, 27, 28, 29, 30], [0, 1, 2, 3, 4, 5, 6, 7, 8, 9, 10, 11, 12, 13, 14, 15, 16, 17, 18, 19, 20, 21, 22, 23, 24, 25, 26, 27, 28, 29, 30, 31]] [[(43, 1), (44, 2), (45, 3), (46, 4), (47, 5)], [(42, 0), (44, 2), (45, 3), (46, 4)], [(42, 0), (43, 1)], [(42, 0), (43, 1), (44, 2)], [(42, 0), (43, 1), (44, 2), (45, 3)], [(42, 0), (43, 1), (44, 2), (45, 3), (46, 4)], [(42, 0), (43, 1), (44, 2), (45, 3), (46, 4), (47, 5)], [(42, 0), (43, 1), (44, 2), (45, 3), (46, 4), (47, 5), (48, 6)], [(42, 0), (43, 1), (44, 2), (45, 3), (46, 4), (47, 5), (48, 6), (49, 7)], [(42, 0), (43, 1), (44, 2), (45, 3), (46, 4), (47, 5), (48, 6), (49, 7), (50, 8)], [(42, 0), (43, 1), (44, 2), (45, 3), (46, 4), (47, 5), (48, 6), (49, 7), (50, 8), (51, 9)], [(42, 0), (43, 1), (44, 2), (45, 3), (46, 4), (47, 5), (48, 6), (49, 7), (50, 8), (51, 9), (52, 10)], [(42, 0), (43, 1), (44, 2), (45, 3), (46, 4), (47, 5), (48, 6), (49, 7), (50, 8), (51, 9), (52, 10), (53, 11)], [(42, 0), (43, 1), (44, 2), (45, 3), (46, 4), (47, 5), (48, 6), (49, 7), (50, 8), (51, 9), (52, 10), (53, 11), (54, 12)], [(42, 0), (43, 1), (44, 2), (45, 3), (46, 4), (47, 5), (48, 6), (49, 7), (50, 8), (51, 9), (52, 10), (53, 11), (54, 12), (55, 13)], [(42, 0), (43, 1), (44, 2), (45, 3), (46, 4), (47, 5), (48, 6), (49, 7), (50, 8), (51, 9), (52, 10), (53, 11), (54, 12), (55, 13), (56, 14)], [(42, 0), (43, 1), (44, 2), (45, 3), (46, 4), (47, 5), (48, 6), (49, 7), (50, 8), (51, 9), (52, 10), (53, 11), (54, 12), (55, 13), (56, 14), (57, 15)], [(42, 0), (43, 1), (44, 2), (45, 3), (46, 4), (47, 5), (48, 6), (49, 7), (50, 8), (51, 9), (52, 10), (53, 11), (54, 12), (55, 13), (56, 14), (57, 15), (58, 16)], [(42, 0), (43, 1), (44, 2), (45, 3), (46, 4), (47, 5), (48, 6), (49, 7), (50, 8), (51, 9), (52, 10), (53, 11), (54, 12), (55, 13), (56, 14), (57, 15), (58, 16), (59, 17)], [(42, 0), (43, 1), (44, 2), (45, 3), (46, 4), (47, 5), (48, 6), (49, 7), (50, 8), (51, 9), (52, 10), (53, 11), (54, 12), (55, 13), (56, 14), (57, 15), (58, 16), (59, 17), (60, 18)], [(42, 0), (43, 1), (44, 2), (45, 3), (46, 4), (47, 5), (48, 6), (49, 7), (50, 8), (51, 9), (52, 10), (53, 11), (54, 12), (55, 13), (56, 14), (57, 15), (58, 16), (59, 17), (60, 18), (61, 19)], [(42, 0), (43, 1), (44, 2), (45, 3), (46, 4), (47, 5), (48, 6), (49, 7), (50, 8), (51, 9), (52, 10), (53, 11), (54, 12), (55, 13), (56, 14), (57, 15), (58, 16), (59, 17), (60, 18), (61, 19), (62, 20)], [(42, 0), (43, 1), (44, 2), (45, 3), (46, 4), (47, 5), (48, 6), (49, 7), (50, 8), (51, 9), (52, 10), (53, 11), (54, 12), (55, 13), (56, 14), (57, 15), (58, 16), (59, 17), (60, 18), (61, 19), (62, 20), (63, 21)], [(42, 0), (43, 1), (44, 2), (45, 3), (46, 4), (47, 5), (48, 6), (49, 7), (50, 8), (51, 9), (52, 10), (53, 11), (54, 12), (55, 13), (56, 14), (57, 15), (58, 16), (59, 17), (60, 18), (61, 19), (62, 20), (63, 21), (64, 22)], [(42, 0), (43, 1), (44, 2), (45, 3), (46, 4), (47, 5), (48, 6), (49, 7), (50, 8), (51, 9), (52, 10), (53, 11), (54, 12), (55, 13), (56, 14), (57, 15), (58, 16), (59, 17), (60, 18), (61, 19), (62, 20), (63, 21), (64, 22), (65, 23)], [(42, 0), (43, 1), (44, 2), (45, 3), (46, 4), (47, 5), (48, 6), (49, 7), (50, 8), (51, 9), (52, 10), (53, 11), (54, 12), (55, 13), (56, 14), (57, 15), (58, 16), (59, 17), (60, 18), (61, 19), (62, 20), (63, 21), (64, 22), (65, 23), (66, 24)], [(42, 0), (43, 1), (44, 2), (45, 3), (46, 4), (47, 5), (48, 6), (49, 7), (50, 8), (51, 9), (52, 10), (53, 11), (54, 12), (55, 13), (56, 14), (57, 15), (58, 16), (59, 17), (60, 18), (61, 19), (62, 20), (63, 21), (64, 22), (65, 23), (66, 24), (67, 25)], [(42, 0), (43, 1), (44, 2), (45, 3), (46, 4), (47, 5), (48, 6), (49, 7), (50, 8), (51, 9), (52, 10), (53, 11), (54, 12), (55, 13), (56, 14), (57, 15), (58, 16), (59, 17), (60, 18), (61, 19), (62, 20), (63, 21), (64, 22), (65, 23), (66, 24), (67, 25), (68, 26), (70, 28)], [(42, 0), (43, 1), (44, 2), (45, 3), (46, 4), (47, 5), (48, 6), (49, 7), (50, 8), (51, 9), (52, 10), (53, 11), (54, 12), (55, 13), (56, 14), (57, 15), (58, 16), (59, 17), (60, 18), (61, 19), (62, 20), (63, 21), (64, 22), (65, 23), (66, 24), (67, 25), (68, 26), (69, 27)], [(42, 0), (43, 1), (44, 2), (45, 3), (46, 4), (47, 5), (48, 6), (49, 7), (50, 8), (51, 9), (52, 10), (53, 11), (54, 12), (55, 13), (56, 14), (57, 15), (58, 16), (59, 17), (60, 18), (61, 19), (62, 20), (63, 21), (64, 22), (65, 23), (66, 24), (67, 25), (68, 26), (69, 27), (70, 28)], [(42, 0), (43, 1), (44, 2), (45, 3), (46, 4), (47, 5), (48, 6), (49, 7), (50, 8), (51, 9), (52, 10), (53, 11), (54, 12), (55, 13), (56, 14), (57, 15), (58, 16), (59, 17), (60, 18), (61, 19), (62, 20), (63, 21), (64, 22), (65, 23), (66, 24), (67, 25), (68, 26), (69, 27), (70, 28), (71, 29)], [(42, 0), (43, 1), (44, 2), (45, 3), (46, 4), (47, 5), (48, 6), (49, 7), (50, 8), (51, 9), (52, 10), (53, 11), (54, 12), (55, 13), (56, 14), (57, 15), (58, 16), (59, 17), (60, 18), (61, 19), (62, 20), (63, 21), (64, 22), (65, 23), (66, 24), (67, 25), (68, 26), (69, 27), (70, 28), (71, 29), (72, 30)], [(42, 0), (43, 1), (44, 2), (45, 3), (46, 4), (47, 5), (48, 6), (49, 7), (50, 8), (51, 9), (52, 10), (53, 11), (54, 12), (55, 13), (56, 14), (57, 15), (58, 16), (59, 17), (60, 18), (61, 19), (62, 20), (63, 21), (64, 22), (65, 23), (66, 24), (67, 25), (68, 26), (69, 27), (70, 28), (71, 29), (72, 30), (73, 31)]] [(42, 0), (43, 1), (44, 2), (45, 3), (46, 4), (47, 5), (48, 6), (49, 7), (50, 8), (51, 9), (52, 10), (53, 11), (54, 12), (55, 13), (56, 14), (57, 15), (58, 16), (59, 17), (60, 18), (61, 19), (62, 20), (63, 21), (64, 22), (65, 23), (66, 24), (67, 25), (68, 26), (69, 27), (70, 28), (71, 29), (72, 30), (73, 31), (0, 32)]
    [Is (.agg #[.int .i64 17, .int .i64 0, .int .u64 0, .string ⟨#[]⟩, .slice (some ⟨g3, 0, none⟩) 2 2, .slice (some ⟨g4, 0, none⟩) 2 2]), SsX 2 [⟨#[97]⟩, ⟨#[98]⟩], Is (.agg #[.int .i64 6, .int .i64 0, .int .u64 0, .string ⟨#[120]⟩, .slice none 0 0, .slice none 0 0]), Is (.agg #[.int .i64 3, .int .i64 1, .int .u64 0, .string ⟨#[]⟩, .slice none 0 0, .slice none 0 0]), RnX 2 [(.mk 6 0 0 ⟨#[120]⟩ [] []), (.mk 3 1 0 ⟨#[]⟩ [] [])], Nd (.mk 17 0 0 ⟨#[]⟩ [⟨#[97]⟩, ⟨#[98]⟩] [(.mk 6 0 0 ⟨#[120]⟩ [] []), (.mk 3 1 0 ⟨#[]⟩ [] [])]), Is (.bool true), Is (.bool true), Is (.int .i64 60), Is (.bool true), Is (.bool true), Is (.bool true), Is (.agg #[.int .i64 4, .int .i64 0, .int .u64 1, .string ⟨#[]⟩, .slice none 0 0, .slice none 0 0]), RnX 1 [(.mk 4 0 1 ⟨#[]⟩ [] [])], Nd (.mk 10 0 0 ⟨#[]⟩ [] [(.mk 4 0 1 ⟨#[]⟩ [] [])]), Is (.agg #[.int .i64 3, .int .i64 1, .int .u64 0, .string ⟨#[]⟩, .slice none 0 0, .slice none 0 0]), RnX 1 [(.mk 3 1 0 ⟨#[]⟩ [] [])], Nd (.mk 11 0 0 ⟨#[]⟩ [] [(.mk 3 1 0 ⟨#[]⟩ [] [])]), Is (.bool true), Is (.bool true), Is (.bool true), Is (.agg #[.int .i64 3, .int .i64 1, .int .u64 0, .string ⟨#[]⟩, .slice none 0 0, .slice none 0 0]), Is (.agg #[.int .i64 6, .int .i64 0, .int .u64 0, .string ⟨#[49]⟩, .slice none 0 0, .slice none 0 0]), Is (.bool false), Is (.bool true), Is (.bool true), Is (.bool true), Is (.agg #[.int .i64 0, .int .i64 0, .int .u64 0, .string ⟨#[]⟩, .slice none 0 0, .slice none 0 0]), Is (.agg #[.int .i64 0, .int .i64 0, .int .u64 0, .string ⟨#[]⟩, .slice none 0 0, .slice none 0 0]), Is (.bool false), Is (.bool true), Is (.bool true), Is (.bool true)]
    (by kernel_rfl) Grew.trans Grew.refl (Grew.refl _).drew (by kernel_rfl) ⟨is_st, SsX.st _ _, is_st, is_st, RnX.st _ _, Nd.st _, is_st, is_st, is_st, is_st, is_st, is_st, is_st, RnX.st _ _, Nd.st _, is_st, RnX.st _ _, Nd.st _, is_st, is_st, is_st, is_st, is_st, is_st, is_st, is_st, is_st, is_st, is_st, is_st, is_st, is_st, is_st, trivial⟩ ?_ rfl ?_
  rotate_left
  · intro y w2 hG hF
    simp only [factsH, Is, and_true, Nat.reduceAdd] at hF
    have hlast := hF.2.2.2.2.2.2.2.2.2.2.2.2.2.2.2.2.2.2.2.2.2.2.2.2.2.2.2.2.2.2.2.2
    clear hF
    simp only [fillL, Act.put, List.setIfInBounds_toArray, List.set_cons_zero, List.set_cons_succ, List.getD_cons_zero, List.getD_cons_succ, hlast]
    replace HG := Lib.hid (HG.out.trans hG)
    clear hG hlast
    go_wp2_with fail
    go_ret
    exact ⟨rfl, HG.out⟩
  refine ⟨?_, ?_⟩
  · intro y w2 hG hD K hK
    have da0 := hG.cell a0
    have da1 := hG.cell a1
    have da2 := hG.cell a2
    have da3 := hG.cell a3
    have da4 := hG.cell a4
    have da5 := hG.cell a5
    simp only [fillL, Act.put, List.setIfInBounds_toArray, List.set_cons_zero, List.set_cons_succ, List.getD_cons_zero, List.getD_cons_succ, Is] at hK ⊢
    refine ite_yes (by rfl) ?_
    go_simp
    exact hK _ _ _ rfl (Grew.refl _) rfl
  refine ⟨?_, ?_⟩
  · intro y w2 hG hD K hK
    simp only [fillL, Act.put, List.setIfInBounds_toArray, List.set_cons_zero, List.set_cons_succ, List.getD_cons_zero, List.getD_cons_succ, Is] at hK ⊢
    refine ite_yes (by rfl) ?_
    go_simp
    have hbb := built_strs w2 [⟨#[97]⟩, ⟨#[98]⟩] (lenoks _ (by decide)) (by decide)
    exact hK _ _ _ rfl ((Grew.refl _).alloc _) ⟨⟨_, rfl⟩, hbb⟩
  refine ⟨?_, ?_⟩
  · intro y w2 hG hD K hK
    simp only [fillL, Act.put, List.setIfInBounds_toArray, List.set_cons_zero, List.set_cons_succ, List.getD_cons_zero, List.getD_cons_succ, Is] at hK ⊢
    refine ite_yes (by rfl) ?_
    go_simp
    refine (text9_any ⟨#[120]⟩ _).mono ?_
    rintro r w3 ⟨rfl, hg3⟩
    exact hK _ _ _ rfl hg3 rfl
  refine ⟨?_, ?_⟩
  · intro y w2 hG hD K hK
    simp only [depsH, List.getD_cons_zero, List.getD_cons_succ, Is, and_true] at hD
    have h2 := hD
    clear hD
    simp only [fillL, Act.put, List.setIfInBounds_toArray, List.set_cons_zero, List.set_cons_succ, List.getD_cons_zero, List.getD_cons_succ, Is] at hK ⊢
    simp only [h2] at hK ⊢
    clear h2
    refine ite_yes (by rfl) ?_
    go_simp
    refine (num9_any 1 _).mono ?_
    rintro r w3 ⟨rfl, hg3⟩
    exact hK _ _ _ rfl hg3 rfl
  refine ⟨?_, ?_⟩
  · intro y w2 hG hD K hK
    simp only [depsH, List.getD_cons_zero, List.getD_cons_succ, Is, and_true] at hD
    have h2 := hD.1
    have h3 := hD.2
    clear hD
    simp only [fillL, Act.put, List.setIfInBounds_toArray, List.set_cons_zero, List.set_cons_succ, List.getD_cons_zero, List.getD_cons_succ, Is] at hK ⊢
    simp only [h2, h3] at hK ⊢
    clear h2 h3
    refine ite_yes (by rfl) ?_
    go_simp
    have hbb := built_nodes w2 [(.mk 6 0 0 ⟨#[120]⟩ [] []), (.mk 3 1 0 ⟨#[]⟩ [] [])] [.agg #[.int .i64 6, .int .i64 0, .int .u64 0, .string ⟨#[120]⟩, .slice none 0 0, .slice none 0 0], .agg #[.int .i64 3, .int .i64 1, .int .u64 0, .string ⟨#[]⟩, .slice none 0 0, .slice none 0 0]] (by intro x hx; simp only [List.mem_cons, List.not_mem_nil, or_false] at hx; rcases hx with rfl | rfl <;> exact ⟨_, _, _, _, _, _, _, _, _, _, rfl⟩) ⟨_, _, rfl, (leaf_nd 6 0 0 ⟨#[120]⟩ (by unfold i64ok u64ok lenok; decide) _), ⟨_, _, rfl, (leaf_nd 3 1 0 ⟨#[]⟩ (by unfold i64ok u64ok lenok; decide) _), rfl⟩⟩ (by simp)
    exact hK _ _ _ rfl ((Grew.refl _).alloc _) ⟨⟨_, rfl⟩, hbb⟩
  refine ⟨?_, ?_⟩
  · intro y w2 hG hD K hK
    simp only [depsH, List.getD_cons_zero, List.getD_cons_succ, Is, and_true] at hD
    have h1 := hD.1
    have h2 := hD.2.1
    have h3 := hD.2.2.1
    have h4 := hD.2.2.2
    clear hD
    simp only [fillL, Act.put, List.setIfInBounds_toArray, List.set_cons_zero, List.set_cons_succ, List.getD_cons_zero, List.getD_cons_succ, Is] at hK ⊢
    simp only [h2, h3] at hK ⊢
    clear h2 h3
    refine ite_yes (by rfl) ?_
    skip
    obtain ⟨⟨gq, eq⟩, hq⟩ := h1
    obtain ⟨⟨gr, er⟩, hr⟩ := h4
    rw [eq] at hq
    rw [er] at hr
    simp only [eq, er] at hK ⊢
    go_simp
    exact hK _ _ _ rfl (Grew.refl _) (table_nd hq hr)
  refine ⟨?_, ?_⟩
  · intro y w2 hG hD K hK
    simp only [depsH, List.getD_cons_zero, List.getD_cons_succ, Is, and_true] at hD
    have h0 := hD.1
    have h1 := hD.2.1
    have h2 := hD.2.2.1
    have h3 := hD.2.2.2.1
    have h4 := hD.2.2.2.2.1
    have h5 := hD.2.2.2.2.2
    clear hD
    simp only [fillL, Act.put, List.setIfInBounds_toArray, List.set_cons_zero, List.set_cons_succ, List.getD_cons_zero, List.getD_cons_succ, Is] at hK ⊢
    simp only [h0, h2, h3] at hK ⊢
    clear h0 h2 h3
    refine ite_yes (by rfl) ?_
    go_simp
    refine (is9_any (.mk 17 0 0 ⟨#[]⟩ [⟨#[98]⟩, ⟨#[97]⟩] [(.mk 4 0 1 ⟨#[]⟩ [] []), (.mk 5 0 0 ⟨#[120]⟩ [] [])]) (.mk 17 0 0 ⟨#[]⟩ [⟨#[97]⟩, ⟨#[98]⟩] [(.mk 6 0 0 ⟨#[120]⟩ [] []), (.mk 3 1 0 ⟨#[]⟩ [] [])]) _ _ w2 (Nd.st _ _ _ _ hG nin) h5 (by decide)).mono ?_
    rintro r w3 ⟨bq, rfl, hbq, hg3⟩
    obtain rfl : bq = true := hbq.2 w09_e
    exact hK _ _ _ rfl hg3 rfl
  refine ⟨?_, ?_⟩
  · intro y w2 hG hD K hK
    simp only [depsH, List.getD_cons_zero, List.getD_cons_succ, Is, and_true] at hD
    have h0 := hD.1
    have h1 := hD.2.1
    have h2 := hD.2.2.1
    have h3 := hD.2.2.2.1
    have h4 := hD.2.2.2.2.1
    have h5 := hD.2.2.2.2.2.1
    have h6 := hD.2.2.2.2.2.2
    clear hD
    simp only [fillL, Act.put, List.setIfInBounds_toArray, List.set_cons_zero, List.set_cons_succ, List.getD_cons_zero, List.getD_cons_succ, Is] at hK ⊢
    simp only [h0, h2, h3, h6] at hK ⊢
    clear h0 h2 h3 h6
    refine ite_yes (by rfl) ?_
    go_simp
    exact hK _ _ _ rfl (Grew.refl _) rfl
  refine ⟨?_, ?_⟩
  · intro y w2 hG hD K hK
    simp only [depsH, List.getD_cons_zero, List.getD_cons_succ, Is, and_true] at hD
    have h0 := hD.1
    have h1 := hD.2.1
    have h2 := hD.2.2.1
    have h3 := hD.2.2.2.1
    have h4 := hD.2.2.2.2.1
    have h5 := hD.2.2.2.2.2.1
    have h6 := hD.2.2.2.2.2.2.1
    have h7 := hD.2.2.2.2.2.2.2
    clear hD
    simp only [fillL, Act.put, List.setIfInBounds_toArray, List.set_cons_zero, List.set_cons_succ, List.getD_cons_zero, List.getD_cons_succ, Is] at hK ⊢
    simp only [h0, h2, h3, h6, h7] at hK ⊢
    clear h0 h2 h3 h6 h7
    refine ite_yes (by rfl) ?_
    go_simp
    exact hK _ _ _ rfl (Grew.refl _) rfl
  refine ⟨?_, ?_⟩
  · intro y w2 hG hD K hK
    simp only [depsH, List.getD_cons_zero, List.getD_cons_succ, Is, and_true] at hD
    have h0 := hD.1
    have h1 := hD.2.1
    have h2 := hD.2.2.1
    have h3 := hD.2.2.2.1
    have h4 := hD.2.2.2.2.1
    have h5 := hD.2.2.2.2.2.1
    have h6 := hD.2.2.2.2.2.2.1
    have h7 := hD.2.2.2.2.2.2.2.1
    have h8 := hD.2.2.2.2.2.2.2.2
    clear hD
    simp only [fillL, Act.put, List.setIfInBounds_toArray, List.set_cons_zero, List.set_cons_succ, List.getD_cons_zero, List.getD_cons_succ, Is] at hK ⊢
    simp only [h0, h2, h3, h6, h7, h8] at hK ⊢
    clear h0 h2 h3 h6 h7 h8
    refine ite_yes (by rfl) ?_
    go_simp
    exact hK _ _ _ rfl (Grew.refl _) rfl
  refine ⟨?_, ?_⟩
  · intro y w2 hG hD K hK
    simp only [depsH, List.getD_cons_zero, List.getD_cons_succ, Is, and_true] at hD
    have h0 := hD.1
    have h1 := hD.2.1
    have h2 := hD.2.2.1
    have h3 := hD.2.2.2.1
    have h4 := hD.2.2.2.2.1
    have h5 := hD.2.2.2.2.2.1
    have h6 := hD.2.2.2.2.2.2.1
    have h7 := hD.2.2.2.2.2.2.2.1
    have h8 := hD.2.2.2.2.2.2.2.2.1
    have h9 := hD.2.2.2.2.2.2.2.2.2
    clear hD
    simp only [fillL, Act.put, List.setIfInBounds_toArray, List.set_cons_zero, List.set_cons_succ, List.getD_cons_zero, List.getD_cons_succ, Is] at hK ⊢
    simp only [h0, h2, h3, h6, h7, h8, h9] at hK ⊢
    clear h0 h2 h3 h6 h7 h8 h9
    refine ite_yes (by rfl) ?_
    go_simp
    exact hK _ _ _ rfl (Grew.refl _) rfl
  refine ⟨?_, ?_⟩
  · intro y w2 hG hD K hK
    simp only [depsH, List.getD_cons_zero, List.getD_cons_succ, Is, and_true] at hD
    have h0 := hD.1
    have h1 := hD.2.1
    have h2 := hD.2.2.1
    have h3 := hD.2.2.2.1
    have h4 := hD.2.2.2.2.1
    have h5 := hD.2.2.2.2.2.1
    have h6 := hD.2.2.2.2.2.2.1
    have h7 := hD.2.2.2.2.2.2.2.1
    have h8 := hD.2.2.2.2.2.2.2.2.1
    have h9 := hD.2.2.2.2.2.2.2.2.2.1
    have h10 := hD.2.2.2.2.2.2.2.2.2.2
    clear hD
    simp only [fillL, Act.put, List.setIfInBounds_toArray, List.set_cons_zero, List.set_cons_succ, List.getD_cons_zero, List.getD_cons_succ, Is] at hK ⊢
    simp only [h0, h2, h3, h6, h7, h8, h9, h10] at hK ⊢
    clear h0 h2 h3 h6 h7 h8 h9 h10
    refine ite_yes (by rfl) ?_
    go_simp
    exact hK _ _ _ rfl (Grew.refl _) rfl
  refine ⟨?_, ?_⟩
  · intro y w2 hG hD K hK
    simp only [depsH, List.getD_cons_zero, List.getD_cons_succ, Is, and_true] at hD
    have h0 := hD.1
    have h1 := hD.2.1
    have h2 := hD.2.2.1
    have h3 := hD.2.2.2.1
    have h4 := hD.2.2.2.2.1
    have h5 := hD.2.2.2.2.2.1
    have h6 := hD.2.2.2.2.2.2.1
    have h7 := hD.2.2.2.2.2.2.2.1
    have h8 := hD.2.2.2.2.2.2.2.2.1
    have h9 := hD.2.2.2.2.2.2.2.2.2.1
    have h10 := hD.2.2.2.2.2.2.2.2.2.2.1
    have h11 := hD.2.2.2.2.2.2.2.2.2.2.2
    clear hD
    simp only [fillL, Act.put, List.setIfInBounds_toArray, List.set_cons_zero, List.set_cons_succ, List.getD_cons_zero, List.getD_cons_succ, Is] at hK ⊢
    simp only [h0, h2, h3, h6, h7, h8, h9, h10, h11] at hK ⊢
    clear h0 h2 h3 h6 h7 h8 h9 h10 h11
    refine ite_yes (by rfl) ?_
    go_simp
    refine (uns9_any 1 _).mono ?_
    rintro r w3 ⟨rfl, hg3⟩
    exact hK _ _ _ rfl hg3 rfl
  refine ⟨?_, ?_⟩
  · intro y w2 hG hD K hK
    simp only [depsH, List.getD_cons_zero, List.getD_cons_succ, Is, and_true] at hD
    have h0 := hD.1
    have h1 := hD.2.1
    have h2 := hD.2.2.1
    have h3 := hD.2.2.2.1
    have h4 := hD.2.2.2.2.1
    have h5 := hD.2.2.2.2.2.1
    have h6 := hD.2.2.2.2.2.2.1
    have h7 := hD.2.2.2.2.2.2.2.1
    have h8 := hD.2.2.2.2.2.2.2.2.1
    have h9 := hD.2.2.2.2.2.2.2.2.2.1
    have h10 := hD.2.2.2.2.2.2.2.2.2.2.1
    have h11 := hD.2.2.2.2.2.2.2.2.2.2.2.1
    have h12 := hD.2.2.2.2.2.2.2.2.2.2.2.2
    clear hD
    simp only [fillL, Act.put, List.setIfInBounds_toArray, List.set_cons_zero, List.set_cons_succ, List.getD_cons_zero, List.getD_cons_succ, Is] at hK ⊢
    simp only [h0, h2, h3, h6, h7, h8, h9, h10, h11, h12] at hK ⊢
    clear h0 h2 h3 h6 h7 h8 h9 h10 h11 h12
    refine ite_yes (by rfl) ?_
    go_simp
    have hbb := built_nodes w2 [(.mk 4 0 1 ⟨#[]⟩ [] [])] [.agg #[.int .i64 4, .int .i64 0, .int .u64 1, .string ⟨#[]⟩, .slice none 0 0, .slice none 0 0]] (by intro x hx; simp only [List.mem_cons, List.not_mem_nil, or_false] at hx; subst hx; exact ⟨_, _, _, _, _, _, _, _, _, _, rfl⟩) ⟨_, _, rfl, (leaf_nd 4 0 1 ⟨#[]⟩ (by unfold i64ok u64ok lenok; decide) _), rfl⟩ (by simp)
    exact hK _ _ _ rfl ((Grew.refl _).alloc _) ⟨⟨_, rfl⟩, hbb⟩
  refine ⟨?_, ?_⟩
  · intro y w2 hG hD K hK
    simp only [depsH, List.getD_cons_zero, List.getD_cons_succ, Is, and_true] at hD
    have h0 := hD.1
    have h1 := hD.2.1
    have h2 := hD.2.2.1
    have h3 := hD.2.2.2.1
    have h4 := hD.2.2.2.2.1
    have h5 := hD.2.2.2.2.2.1
    have h6 := hD.2.2.2.2.2.2.1
    have h7 := hD.2.2.2.2.2.2.2.1
    have h8 := hD.2.2.2.2.2.2.2.2.1
    have h9 := hD.2.2.2.2.2.2.2.2.2.1
    have h10 := hD.2.2.2.2.2.2.2.2.2.2.1
    have h11 := hD.2.2.2.2.2.2.2.2.2.2.2.1
    have h12 := hD.2.2.2.2.2.2.2.2.2.2.2.2.1
    have h13 := hD.2.2.2.2.2.2.2.2.2.2.2.2.2
    clear hD
    simp only [fillL, Act.put, List.setIfInBounds_toArray, List.set_cons_zero, List.set_cons_succ, List.getD_cons_zero, List.getD_cons_succ, Is] at hK ⊢
    simp only [h0, h2, h3, h6, h7, h8, h9, h10, h11, h12] at hK ⊢
    clear h0 h2 h3 h6 h7 h8 h9 h10 h11 h12
    refine ite_yes (by rfl) ?_
    skip
    obtain ⟨⟨gq, eq⟩, hq⟩ := h13
    rw [eq] at hq hK ⊢
    go_simp
    refine (list9_any 10 _ _ _ _).mono ?_
    rintro r w3 ⟨rfl, hg3⟩
    exact hK _ _ _ rfl hg3 (vecK_nd 10 (by unfold i64ok; decide) (Rn.st _ _ _ _ hg3 hq))
  refine ⟨?_, ?_⟩
  · intro y w2 hG hD K hK
    simp only [depsH, List.getD_cons_zero, List.getD_cons_succ, Is, and_true] at hD
    have h0 := hD.1
    have h1 := hD.2.1
    have h2 := hD.2.2.1
    have h3 := hD.2.2.2.1
    have h4 := hD.2.2.2.2.1
    have h5 := hD.2.2.2.2.2.1
    have h6 := hD.2.2.2.2.2.2.1
    have h7 := hD.2.2.2.2.2.2.2.1
    have h8 := hD.2.2.2.2.2.2.2.2.1
    have h9 := hD.2.2.2.2.2.2.2.2.2.1
    have h10 := hD.2.2.2.2.2.2.2.2.2.2.1
    have h11 := hD.2.2.2.2.2.2.2.2.2.2.2.1
    have h12 := hD.2.2.2.2.2.2.2.2.2.2.2.2.1
    have h13 := hD.2.2.2.2.2.2.2.2.2.2.2.2.2.1
    have h14 := hD.2.2.2.2.2.2.2.2.2.2.2.2.2.2
    clear hD
    simp only [fillL, Act.put, List.setIfInBounds_toArray, List.set_cons_zero, List.set_cons_succ, List.getD_cons_zero, List.getD_cons_succ, Is] at hK ⊢
    simp only [h0, h2, h3, h6, h7, h8, h9, h10, h11, h12] at hK ⊢
    clear h0 h2 h3 h6 h7 h8 h9 h10 h11 h12
    refine ite_yes (by rfl) ?_
    go_simp
    refine (num9_any 1 _).mono ?_
    rintro r w3 ⟨rfl, hg3⟩
    exact hK _ _ _ rfl hg3 rfl
  refine ⟨?_, ?_⟩
  · intro y w2 hG hD K hK
    simp only [depsH, List.getD_cons_zero, List.getD_cons_succ, Is, and_true] at hD
    have h0 := hD.1
    have h1 := hD.2.1
    have h2 := hD.2.2.1
    have h3 := hD.2.2.2.1
    have h4 := hD.2.2.2.2.1
    have h5 := hD.2.2.2.2.2.1
    have h6 := hD.2.2.2.2.2.2.1
    have h7 := hD.2.2.2.2.2.2.2.1
    have h8 := hD.2.2.2.2.2.2.2.2.1
    have h9 := hD.2.2.2.2.2.2.2.2.2.1
    have h10 := hD.2.2.2.2.2.2.2.2.2.2.1
    have h11 := hD.2.2.2.2.2.2.2.2.2.2.2.1
    have h12 := hD.2.2.2.2.2.2.2.2.2.2.2.2.1
    have h13 := hD.2.2.2.2.2.2.2.2.2.2.2.2.2.1
    have h14 := hD.2.2.2.2.2.2.2.2.2.2.2.2.2.2.1
    have h15 := hD.2.2.2.2.2.2.2.2.2.2.2.2.2.2.2
    clear hD
    simp only [fillL, Act.put, List.setIfInBounds_toArray, List.set_cons_zero, List.set_cons_succ, List.getD_cons_zero, List.getD_cons_succ, Is] at hK ⊢
    simp only [h0, h2, h3, h6, h7, h8, h9, h10, h11, h12, h15] at hK ⊢
    clear h0 h2 h3 h6 h7 h8 h9 h10 h11 h12 h15
    refine ite_yes (by rfl) ?_
    go_simp
    have hbb := built_nodes w2 [(.mk 3 1 0 ⟨#[]⟩ [] [])] [.agg #[.int .i64 3, .int .i64 1, .int .u64 0, .string ⟨#[]⟩, .slice none 0 0, .slice none 0 0]] (by intro x hx; simp only [List.mem_cons, List.not_mem_nil, or_false] at hx; subst hx; exact ⟨_, _, _, _, _, _, _, _, _, _, rfl⟩) ⟨_, _, rfl, (leaf_nd 3 1 0 ⟨#[]⟩ (by unfold i64ok u64ok lenok; decide) _), rfl⟩ (by simp)
    exact hK _ _ _ rfl ((Grew.refl _).alloc _) ⟨⟨_, rfl⟩, hbb⟩
  refine ⟨?_, ?_⟩
  · intro y w2 hG hD K hK
    simp only [depsH, List.getD_cons_zero, List.getD_cons_succ, Is, and_true] at hD
    have h0 := hD.1
    have h1 := hD.2.1
    have h2 := hD.2.2.1
    have h3 := hD.2.2.2.1
    have h4 := hD.2.2.2.2.1
    have h5 := hD.2.2.2.2.2.1
    have h6 := hD.2.2.2.2.2.2.1
    have h7 := hD.2.2.2.2.2.2.2.1
    have h8 := hD.2.2.2.2.2.2.2.2.1
    have h9 := hD.2.2.2.2.2.2.2.2.2.1
    have h10 := hD.2.2.2.2.2.2.2.2.2.2.1
    have h11 := hD.2.2.2.2.2.2.2.2.2.2.2.1
    have h12 := hD.2.2.2.2.2.2.2.2.2.2.2.2.1
    have h13 := hD.2.2.2.2.2.2.2.2.2.2.2.2.2.1
    have h14 := hD.2.2.2.2.2.2.2.2.2.2.2.2.2.2.1
    have h15 := hD.2.2.2.2.2.2.2.2.2.2.2.2.2.2.2.1
    have h16 := hD.2.2.2.2.2.2.2.2.2.2.2.2.2.2.2.2
    clear hD
    simp only [fillL, Act.put, List.setIfInBounds_toArray, List.set_cons_zero, List.set_cons_succ, List.getD_cons_zero, List.getD_cons_succ, Is] at hK ⊢
    simp only [h0, h2, h3, h6, h7, h8, h9, h10, h11, h12, h15] at hK ⊢
    clear h0 h2 h3 h6 h7 h8 h9 h10 h11 h12 h15
    refine ite_yes (by rfl) ?_
    skip
    obtain ⟨⟨gq, eq⟩, hq⟩ := h16
    rw [eq] at hq hK ⊢
    go_simp
    refine (list9_any 11 _ _ _ _).mono ?_
    rintro r w3 ⟨rfl, hg3⟩
    exact hK _ _ _ rfl hg3 (vecK_nd 11 (by unfold i64ok; decide) (Rn.st _ _ _ _ hg3 hq))
  refine ⟨?_, ?_⟩
  · intro y w2 hG hD K hK
    simp only [depsH, List.getD_cons_zero, List.getD_cons_succ, Is, and_true] at hD
    have h0 := hD.1
    have h1 := hD.2.1
    have h2 := hD.2.2.1
    have h3 := hD.2.2.2.1
    have h4 := hD.2.2.2.2.1
    have h5 := hD.2.2.2.2.2.1
    have h6 := hD.2.2.2.2.2.2.1
    have h7 := hD.2.2.2.2.2.2.2.1
    have h8 := hD.2.2.2.2.2.2.2.2.1
    have h9 := hD.2.2.2.2.2.2.2.2.2.1
    have h10 := hD.2.2.2.2.2.2.2.2.2.2.1
    have h11 := hD.2.2.2.2.2.2.2.2.2.2.2.1
    have h12 := hD.2.2.2.2.2.2.2.2.2.2.2.2.1
    have h13 := hD.2.2.2.2.2.2.2.2.2.2.2.2.2.1
    have h14 := hD.2.2.2.2.2.2.2.2.2.2.2.2.2.2.1
    have h15 := hD.2.2.2.2.2.2.2.2.2.2.2.2.2.2.2.1
    have h16 := hD.2.2.2.2.2.2.2.2.2.2.2.2.2.2.2.2.1
    have h17 := hD.2.2.2.2.2.2.2.2.2.2.2.2.2.2.2.2.2
    clear hD
    simp only [fillL, Act.put, List.setIfInBounds_toArray, List.set_cons_zero, List.set_cons_succ, List.getD_cons_zero, List.getD_cons_succ, Is] at hK ⊢
    simp only [h0, h2, h3, h6, h7, h8, h9, h10, h11, h12, h15] at hK ⊢
    clear h0 h2 h3 h6 h7 h8 h9 h10 h11 h12 h15
    refine ite_yes (by rfl) ?_
    go_simp
    refine (alike_any (.mk 10 0 0 ⟨#[]⟩ [] [(.mk 4 0 1 ⟨#[]⟩ [] [])]) (.mk 11 0 0 ⟨#[]⟩ [] [(.mk 3 1 0 ⟨#[]⟩ [] [])]) _ _ w2 h14 h17 (by decide) (by decide)).mono ?_
    rintro r w3 ⟨bq, rfl, hbq, hg3⟩
    obtain rfl : bq = true := hbq.2 w09_h
    exact hK _ _ _ rfl hg3 rfl
  refine ⟨?_, ?_⟩
  · intro y w2 hG hD K hK
    simp only [depsH, List.getD_cons_zero, List.getD_cons_succ, Is, and_true] at hD
    have h0 := hD.1
    have h1 := hD.2.1
    have h2 := hD.2.2.1
    have h3 := hD.2.2.2.1
    have h4 := hD.2.2.2.2.1
    have h5 := hD.2.2.2.2.2.1
    have h6 := hD.2.2.2.2.2.2.1
    have h7 := hD.2.2.2.2.2.2.2.1
    have h8 := hD.2.2.2.2.2.2.2.2.1
    have h9 := hD.2.2.2.2.2.2.2.2.2.1
    have h10 := hD.2.2.2.2.2.2.2.2.2.2.1
    have h11 := hD.2.2.2.2.2.2.2.2.2.2.2.1
    have h12 := hD.2.2.2.2.2.2.2.2.2.2.2.2.1
    have h13 := hD.2.2.2.2.2.2.2.2.2.2.2.2.2.1
    have h14 := hD.2.2.2.2.2.2.2.2.2.2.2.2.2.2.1
    have h15 := hD.2.2.2.2.2.2.2.2.2.2.2.2.2.2.2.1
    have h16 := hD.2.2.2.2.2.2.2.2.2.2.2.2.2.2.2.2.1
    have h17 := hD.2.2.2.2.2.2.2.2.2.2.2.2.2.2.2.2.2.1
    have h18 := hD.2.2.2.2.2.2.2.2.2.2.2.2.2.2.2.2.2.2
    clear hD
    simp only [fillL, Act.put, List.setIfInBounds_toArray, List.set_cons_zero, List.set_cons_succ, List.getD_cons_zero, List.getD_cons_succ, Is] at hK ⊢
    simp only [h0, h2, h3, h6, h7, h8, h9, h10, h11, h12, h15, h18] at hK ⊢
    clear h0 h2 h3 h6 h7 h8 h9 h10 h11 h12 h15 h18
    refine ite_yes (by rfl) ?_
    go_simp
    exact hK _ _ _ rfl (Grew.refl _) rfl
  refine ⟨?_, ?_⟩
  · intro y w2 hG hD K hK
    simp only [depsH, List.getD_cons_zero, List.getD_cons_succ, Is, and_true] at hD
    have h0 := hD.1
    have h1 := hD.2.1
    have h2 := hD.2.2.1
    have h3 := hD.2.2.2.1
    have h4 := hD.2.2.2.2.1
    have h5 := hD.2.2.2.2.2.1
    have h6 := hD.2.2.2.2.2.2.1
    have h7 := hD.2.2.2.2.2.2.2.1
    have h8 := hD.2.2.2.2.2.2.2.2.1
    have h9 := hD.2.2.2.2.2.2.2.2.2.1
    have h10 := hD.2.2.2.2.2.2.2.2.2.2.1
    have h11 := hD.2.2.2.2.2.2.2.2.2.2.2.1
    have h12 := hD.2.2.2.2.2.2.2.2.2.2.2.2.1
    have h13 := hD.2.2.2.2.2.2.2.2.2.2.2.2.2.1
    have h14 := hD.2.2.2.2.2.2.2.2.2.2.2.2.2.2.1
    have h15 := hD.2.2.2.2.2.2.2.2.2.2.2.2.2.2.2.1
    have h16 := hD.2.2.2.2.2.2.2.2.2.2.2.2.2.2.2.2.1
    have h17 := hD.2.2.2.2.2.2.2.2.2.2.2.2.2.2.2.2.2.1
    have h18 := hD.2.2.2.2.2.2.2.2.2.2.2.2.2.2.2.2.2.2.1
    have h19 := hD.2.2.2.2.2.2.2.2.2.2.2.2.2.2.2.2.2.2.2
    clear hD
    simp only [fillL, Act.put, List.setIfInBounds_toArray, List.set_cons_zero, List.set_cons_succ, List.getD_cons_zero, List.getD_cons_succ, Is] at hK ⊢
    simp only [h0, h2, h3, h6, h7, h8, h9, h10, h11, h12, h15, h18, h19] at hK ⊢
    clear h0 h2 h3 h6 h7 h8 h9 h10 h11 h12 h15 h18 h19
    refine ite_yes (by rfl) ?_
    go_simp
    exact hK _ _ _ rfl (Grew.refl _) rfl
  refine ⟨?_, ?_⟩
  · intro y w2 hG hD K hK
    simp only [depsH, List.getD_cons_zero, List.getD_cons_succ, Is, and_true] at hD
    have h0 := hD.1
    have h1 := hD.2.1
    have h2 := hD.2.2.1
    have h3 := hD.2.2.2.1
    have h4 := hD.2.2.2.2.1
    have h5 := hD.2.2.2.2.2.1
    have h6 := hD.2.2.2.2.2.2.1
    have h7 := hD.2.2.2.2.2.2.2.1
    have h8 := hD.2.2.2.2.2.2.2.2.1
    have h9 := hD.2.2.2.2.2.2.2.2.2.1
    have h10 := hD.2.2.2.2.2.2.2.2.2.2.1
    have h11 := hD.2.2.2.2.2.2.2.2.2.2.2.1
    have h12 := hD.2.2.2.2.2.2.2.2.2.2.2.2.1
    have h13 := hD.2.2.2.2.2.2.2.2.2.2.2.2.2.1
    have h14 := hD.2.2.2.2.2.2.2.2.2.2.2.2.2.2.1
    have h15 := hD.2.2.2.2.2.2.2.2.2.2.2.2.2.2.2.1
    have h16 := hD.2.2.2.2.2.2.2.2.2.2.2.2.2.2.2.2.1
    have h17 := hD.2.2.2.2.2.2.2.2.2.2.2.2.2.2.2.2.2.1
    have h18 := hD.2.2.2.2.2.2.2.2.2.2.2.2.2.2.2.2.2.2.1
    have h19 := hD.2.2.2.2.2.2.2.2.2.2.2.2.2.2.2.2.2.2.2.1
    have h20 := hD.2.2.2.2.2.2.2.2.2.2.2.2.2.2.2.2.2.2.2.2
    clear hD
    simp only [fillL, Act.put, List.setIfInBounds_toArray, List.set_cons_zero, List.set_cons_succ, List.getD_cons_zero, List.getD_cons_succ, Is] at hK ⊢
    simp only [h0, h2, h3, h6, h7, h8, h9, h10, h11, h12, h15, h18, h19, h20] at hK ⊢
    clear h0 h2 h3 h6 h7 h8 h9 h10 h11 h12 h15 h18 h19 h20
    refine ite_yes (by rfl) ?_
    go_simp
    refine (num9_any 1 _).mono ?_
    rintro r w3 ⟨rfl, hg3⟩
    exact hK _ _ _ rfl hg3 rfl
  refine ⟨?_, ?_⟩
  · intro y w2 hG hD K hK
    simp only [depsH, List.getD_cons_zero, List.getD_cons_succ, Is, and_true] at hD
    have h0 := hD.1
    have h1 := hD.2.1
    have h2 := hD.2.2.1
    have h3 := hD.2.2.2.1
    have h4 := hD.2.2.2.2.1
    have h5 := hD.2.2.2.2.2.1
    have h6 := hD.2.2.2.2.2.2.1
    have h7 := hD.2.2.2.2.2.2.2.1
    have h8 := hD.2.2.2.2.2.2.2.2.1
    have h9 := hD.2.2.2.2.2.2.2.2.2.1
    have h10 := hD.2.2.2.2.2.2.2.2.2.2.1
    have h11 := hD.2.2.2.2.2.2.2.2.2.2.2.1
    have h12 := hD.2.2.2.2.2.2.2.2.2.2.2.2.1
    have h13 := hD.2.2.2.2.2.2.2.2.2.2.2.2.2.1
    have h14 := hD.2.2.2.2.2.2.2.2.2.2.2.2.2.2.1
    have h15 := hD.2.2.2.2.2.2.2.2.2.2.2.2.2.2.2.1
    have h16 := hD.2.2.2.2.2.2.2.2.2.2.2.2.2.2.2.2.1
    have h17 := hD.2.2.2.2.2.2.2.2.2.2.2.2.2.2.2.2.2.1
    have h18 := hD.2.2.2.2.2.2.2.2.2.2.2.2.2.2.2.2.2.2.1
    have h19 := hD.2.2.2.2.2.2.2.2.2.2.2.2.2.2.2.2.2.2.2.1
    have h20 := hD.2.2.2.2.2.2.2.2.2.2.2.2.2.2.2.2.2.2.2.2.1
    have h21 := hD.2.2.2.2.2.2.2.2.2.2.2.2.2.2.2.2.2.2.2.2.2
    clear hD
    simp only [fillL, Act.put, List.setIfInBounds_toArray, List.set_cons_zero, List.set_cons_succ, List.getD_cons_zero, List.getD_cons_succ, Is] at hK ⊢
    simp only [h0, h2, h3, h6, h7, h8, h9, h10, h11, h12, h15, h18, h19, h20, h21] at hK ⊢
    clear h0 h2 h3 h6 h7 h8 h9 h10 h11 h12 h15 h18 h19 h20 h21
    refine ite_yes (by rfl) ?_
    go_simp
    refine (text9_any ⟨#[49]⟩ _).mono ?_
    rintro r w3 ⟨rfl, hg3⟩
    exact hK _ _ _ rfl hg3 rfl
  refine ⟨?_, ?_⟩
  · intro y w2 hG hD K hK
    simp only [depsH, List.getD_cons_zero, List.getD_cons_succ, Is, and_true] at hD
    have h0 := hD.1
    have h1 := hD.2.1
    have h2 := hD.2.2.1
    have h3 := hD.2.2.2.1
    have h4 := hD.2.2.2.2.1
    have h5 := hD.2.2.2.2.2.1
    have h6 := hD.2.2.2.2.2.2.1
    have h7 := hD.2.2.2.2.2.2.2.1
    have h8 := hD.2.2.2.2.2.2.2.2.1
    have h9 := hD.2.2.2.2.2.2.2.2.2.1
    have h10 := hD.2.2.2.2.2.2.2.2.2.2.1
    have h11 := hD.2.2.2.2.2.2.2.2.2.2.2.1
    have h12 := hD.2.2.2.2.2.2.2.2.2.2.2.2.1
    have h13 := hD.2.2.2.2.2.2.2.2.2.2.2.2.2.1
    have h14 := hD.2.2.2.2.2.2.2.2.2.2.2.2.2.2.1
    have h15 := hD.2.2.2.2.2.2.2.2.2.2.2.2.2.2.2.1
    have h16 := hD.2.2.2.2.2.2.2.2.2.2.2.2.2.2.2.2.1
    have h17 := hD.2.2.2.2.2.2.2.2.2.2.2.2.2.2.2.2.2.1
    have h18 := hD.2.2.2.2.2.2.2.2.2.2.2.2.2.2.2.2.2.2.1
    have h19 := hD.2.2.2.2.2.2.2.2.2.2.2.2.2.2.2.2.2.2.2.1
    have h20 := hD.2.2.2.2.2.2.2.2.2.2.2.2.2.2.2.2.2.2.2.2.1
    have h21 := hD.2.2.2.2.2.2.2.2.2.2.2.2.2.2.2.2.2.2.2.2.2.1
    have h22 := hD.2.2.2.2.2.2.2.2.2.2.2.2.2.2.2.2.2.2.2.2.2.2
    clear hD
    simp only [fillL, Act.put, List.setIfInBounds_toArray, List.set_cons_zero, List.set_cons_succ, List.getD_cons_zero, List.getD_cons_succ, Is] at hK ⊢
    simp only [h0, h2, h3, h6, h7, h8, h9, h10, h11, h12, h15, h18, h19, h20, h21, h22] at hK ⊢
    clear h0 h2 h3 h6 h7 h8 h9 h10 h11 h12 h15 h18 h19 h20 h21 h22
    refine ite_yes (by rfl) ?_
    go_simp
    refine (alike_any (.mk 3 1 0 ⟨#[]⟩ [] []) (.mk 6 0 0 ⟨#[49]⟩ [] []) _ _ w2 (leaf_nd 3 1 0 ⟨#[]⟩ (by unfold i64ok u64ok lenok; decide) _) (leaf_nd 6 0 0 ⟨#[49]⟩ (by unfold i64ok u64ok lenok; decide) _) (by decide) (by decide)).mono ?_
    rintro r w3 ⟨bq, rfl, hbq, hg3⟩
    obtain rfl : bq = false := by cases bq; rfl; exact absurd (hbq.1 rfl) w09_f
    exact hK _ _ _ rfl hg3 rfl
  refine ⟨?_, ?_⟩
  · intro y w2 hG hD K hK
    simp only [depsH, List.getD_cons_zero, List.getD_cons_succ, Is, and_true] at hD
    have h0 := hD.1
    have h1 := hD.2.1
    have h2 := hD.2.2.1
    have h3 := hD.2.2.2.1
    have h4 := hD.2.2.2.2.1
    have h5 := hD.2.2.2.2.2.1
    have h6 := hD.2.2.2.2.2.2.1
    have h7 := hD.2.2.2.2.2.2.2.1
    have h8 := hD.2.2.2.2.2.2.2.2.1
    have h9 := hD.2.2.2.2.2.2.2.2.2.1
    have h10 := hD.2.2.2.2.2.2.2.2.2.2.1
    have h11 := hD.2.2.2.2.2.2.2.2.2.2.2.1
    have h12 := hD.2.2.2.2.2.2.2.2.2.2.2.2.1
    have h13 := hD.2.2.2.2.2.2.2.2.2.2.2.2.2.1
    have h14 := hD.2.2.2.2.2.2.2.2.2.2.2.2.2.2.1
    have h15 := hD.2.2.2.2.2.2.2.2.2.2.2.2.2.2.2.1
    have h16 := hD.2.2.2.2.2.2.2.2.2.2.2.2.2.2.2.2.1
    have h17 := hD.2.2.2.2.2.2.2.2.2.2.2.2.2.2.2.2.2.1
    have h18 := hD.2.2.2.2.2.2.2.2.2.2.2.2.2.2.2.2.2.2.1
    have h19 := hD.2.2.2.2.2.2.2.2.2.2.2.2.2.2.2.2.2.2.2.1
    have h20 := hD.2.2.2.2.2.2.2.2.2.2.2.2.2.2.2.2.2.2.2.2.1
    have h21 := hD.2.2.2.2.2.2.2.2.2.2.2.2.2.2.2.2.2.2.2.2.2.1
    have h22 := hD.2.2.2.2.2.2.2.2.2.2.2.2.2.2.2.2.2.2.2.2.2.2.1
    have h23 := hD.2.2.2.2.2.2.2.2.2.2.2.2.2.2.2.2.2.2.2.2.2.2.2
    clear hD
    simp only [fillL, Act.put, List.setIfInBounds_toArray, List.set_cons_zero, List.set_cons_succ, List.getD_cons_zero, List.getD_cons_succ, Is] at hK ⊢
    simp only [h0, h2, h3, h6, h7, h8, h9, h10, h11, h12, h15, h18, h19, h20, h21, h22, h23] at hK ⊢
    clear h0 h2 h3 h6 h7 h8 h9 h10 h11 h12 h15 h18 h19 h20 h21 h22 h23
    refine ite_yes (by rfl) ?_
    go_simp
    exact hK _ _ _ rfl (Grew.refl _) rfl
  refine ⟨?_, ?_⟩
  · intro y w2 hG hD K hK
    simp only [depsH, List.getD_cons_zero, List.getD_cons_succ, Is, and_true] at hD
    have h0 := hD.1
    have h1 := hD.2.1
    have h2 := hD.2.2.1
    have h3 := hD.2.2.2.1
    have h4 := hD.2.2.2.2.1
    have h5 := hD.2.2.2.2.2.1
    have h6 := hD.2.2.2.2.2.2.1
    have h7 := hD.2.2.2.2.2.2.2.1
    have h8 := hD.2.2.2.2.2.2.2.2.1
    have h9 := hD.2.2.2.2.2.2.2.2.2.1
    have h10 := hD.2.2.2.2.2.2.2.2.2.2.1
    have h11 := hD.2.2.2.2.2.2.2.2.2.2.2.1
    have h12 := hD.2.2.2.2.2.2.2.2.2.2.2.2.1
    have h13 := hD.2.2.2.2.2.2.2.2.2.2.2.2.2.1
    have h14 := hD.2.2.2.2.2.2.2.2.2.2.2.2.2.2.1
    have h15 := hD.2.2.2.2.2.2.2.2.2.2.2.2.2.2.2.1
    have h16 := hD.2.2.2.2.2.2.2.2.2.2.2.2.2.2.2.2.1
    have h17 := hD.2.2.2.2.2.2.2.2.2.2.2.2.2.2.2.2.2.1
    have h18 := hD.2.2.2.2.2.2.2.2.2.2.2.2.2.2.2.2.2.2.1
    have h19 := hD.2.2.2.2.2.2.2.2.2.2.2.2.2.2.2.2.2.2.2.1
    have h20 := hD.2.2.2.2.2.2.2.2.2.2.2.2.2.2.2.2.2.2.2.2.1
    have h21 := hD.2.2.2.2.2.2.2.2.2.2.2.2.2.2.2.2.2.2.2.2.2.1
    have h22 := hD.2.2.2.2.2.2.2.2.2.2.2.2.2.2.2.2.2.2.2.2.2.2.1
    have h23 := hD.2.2.2.2.2.2.2.2.2.2.2.2.2.2.2.2.2.2.2.2.2.2.2.1
    have h24 := hD.2.2.2.2.2.2.2.2.2.2.2.2.2.2.2.2.2.2.2.2.2.2.2.2
    clear hD
    simp only [fillL, Act.put, List.setIfInBounds_toArray, List.set_cons_zero, List.set_cons_succ, List.getD_cons_zero, List.getD_cons_succ, Is] at hK ⊢
    simp only [h0, h2, h3, h6, h7, h8, h9, h10, h11, h12, h15, h18, h19, h20, h21, h22, h23, h24] at hK ⊢
    clear h0 h2 h3 h6 h7 h8 h9 h10 h11 h12 h15 h18 h19 h20 h21 h22 h23 h24
    refine ite_yes (by rfl) ?_
    go_simp
    exact hK _ _ _ rfl (Grew.refl _) rfl
  refine ⟨?_, ?_⟩
  · intro y w2 hG hD K hK
    simp only [depsH, List.getD_cons_zero, List.getD_cons_succ, Is, and_true] at hD
    have h0 := hD.1
    have h1 := hD.2.1
    have h2 := hD.2.2.1
    have h3 := hD.2.2.2.1
    have h4 := hD.2.2.2.2.1
    have h5 := hD.2.2.2.2.2.1
    have h6 := hD.2.2.2.2.2.2.1
    have h7 := hD.2.2.2.2.2.2.2.1
    have h8 := hD.2.2.2.2.2.2.2.2.1
    have h9 := hD.2.2.2.2.2.2.2.2.2.1
    have h10 := hD.2.2.2.2.2.2.2.2.2.2.1
    have h11 := hD.2.2.2.2.2.2.2.2.2.2.2.1
    have h12 := hD.2.2.2.2.2.2.2.2.2.2.2.2.1
    have h13 := hD.2.2.2.2.2.2.2.2.2.2.2.2.2.1
    have h14 := hD.2.2.2.2.2.2.2.2.2.2.2.2.2.2.1
    have h15 := hD.2.2.2.2.2.2.2.2.2.2.2.2.2.2.2.1
    have h16 := hD.2.2.2.2.2.2.2.2.2.2.2.2.2.2.2.2.1
    have h17 := hD.2.2.2.2.2.2.2.2.2.2.2.2.2.2.2.2.2.1
    have h18 := hD.2.2.2.2.2.2.2.2.2.2.2.2.2.2.2.2.2.2.1
    have h19 := hD.2.2.2.2.2.2.2.2.2.2.2.2.2.2.2.2.2.2.2.1
    have h20 := hD.2.2.2.2.2.2.2.2.2.2.2.2.2.2.2.2.2.2.2.2.1
    have h21 := hD.2.2.2.2.2.2.2.2.2.2.2.2.2.2.2.2.2.2.2.2.2.1
    have h22 := hD.2.2.2.2.2.2.2.2.2.2.2.2.2.2.2.2.2.2.2.2.2.2.1
    have h23 := hD.2.2.2.2.2.2.2.2.2.2.2.2.2.2.2.2.2.2.2.2.2.2.2.1
    have h24 := hD.2.2.2.2.2.2.2.2.2.2.2.2.2.2.2.2.2.2.2.2.2.2.2.2.1
    have h25 := hD.2.2.2.2.2.2.2.2.2.2.2.2.2.2.2.2.2.2.2.2.2.2.2.2.2
    clear hD
    simp only [fillL, Act.put, List.setIfInBounds_toArray, List.set_cons_zero, List.set_cons_succ, List.getD_cons_zero, List.getD_cons_succ, Is] at hK ⊢
    simp only [h0, h2, h3, h6, h7, h8, h9, h10, h11, h12, h15, h18, h19, h20, h21, h22, h23, h24, h25] at hK ⊢
    clear h0 h2 h3 h6 h7 h8 h9 h10 h11 h12 h15 h18 h19 h20 h21 h22 h23 h24 h25
    refine ite_yes (by rfl) ?_
    go_simp
    exact hK _ _ _ rfl (Grew.refl _) rfl
  refine ⟨?_, ?_⟩
  · intro y w2 hG hD K hK
    simp only [depsH, List.getD_cons_zero, List.getD_cons_succ, Is, and_true] at hD
    have h0 := hD.1
    have h1 := hD.2.1
    have h2 := hD.2.2.1
    have h3 := hD.2.2.2.1
    have h4 := hD.2.2.2.2.1
    have h5 := hD.2.2.2.2.2.1
    have h6 := hD.2.2.2.2.2.2.1
    have h7 := hD.2.2.2.2.2.2.2.1
    have h8 := hD.2.2.2.2.2.2.2.2.1
    have h9 := hD.2.2.2.2.2.2.2.2.2.1
    have h10 := hD.2.2.2.2.2.2.2.2.2.2.1
    have h11 := hD.2.2.2.2.2.2.2.2.2.2.2.1
    have h12 := hD.2.2.2.2.2.2.2.2.2.2.2.2.1
    have h13 := hD.2.2.2.2.2.2.2.2.2.2.2.2.2.1
    have h14 := hD.2.2.2.2.2.2.2.2.2.2.2.2.2.2.1
    have h15 := hD.2.2.2.2.2.2.2.2.2.2.2.2.2.2.2.1
    have h16 := hD.2.2.2.2.2.2.2.2.2.2.2.2.2.2.2.2.1
    have h17 := hD.2.2.2.2.2.2.2.2.2.2.2.2.2.2.2.2.2.1
    have h18 := hD.2.2.2.2.2.2.2.2.2.2.2.2.2.2.2.2.2.2.1
    have h19 := hD.2.2.2.2.2.2.2.2.2.2.2.2.2.2.2.2.2.2.2.1
    have h20 := hD.2.2.2.2.2.2.2.2.2.2.2.2.2.2.2.2.2.2.2.2.1
    have h21 := hD.2.2.2.2.2.2.2.2.2.2.2.2.2.2.2.2.2.2.2.2.2.1
    have h22 := hD.2.2.2.2.2.2.2.2.2.2.2.2.2.2.2.2.2.2.2.2.2.2.1
    have h23 := hD.2.2.2.2.2.2.2.2.2.2.2.2.2.2.2.2.2.2.2.2.2.2.2.1
    have h24 := hD.2.2.2.2.2.2.2.2.2.2.2.2.2.2.2.2.2.2.2.2.2.2.2.2.1
    have h25 := hD.2.2.2.2.2.2.2.2.2.2.2.2.2.2.2.2.2.2.2.2.2.2.2.2.2.1
    have h26 := hD.2.2.2.2.2.2.2.2.2.2.2.2.2.2.2.2.2.2.2.2.2.2.2.2.2.2
    clear hD
    simp only [fillL, Act.put, List.setIfInBounds_toArray, List.set_cons_zero, List.set_cons_succ, List.getD_cons_zero, List.getD_cons_succ, Is] at hK ⊢
    simp only [h0, h2, h3, h6, h7, h8, h9, h10, h11, h12, h15, h18, h19, h20, h21, h22, h23, h24, h25, h26] at hK ⊢
    clear h0 h2 h3 h6 h7 h8 h9 h10 h11 h12 h15 h18 h19 h20 h21 h22 h23 h24 h25 h26
    refine ite_yes (by rfl) ?_
    go_simp
    exact hK _ _ _ rfl (Grew.refl _) rfl
  refine ⟨?_, ?_⟩
  · intro y w2 hG hD K hK
    simp only [depsH, List.getD_cons_zero, List.getD_cons_succ, Is, and_true] at hD
    have h0 := hD.1
    have h1 := hD.2.1
    have h2 := hD.2.2.1
    have h3 := hD.2.2.2.1
    have h4 := hD.2.2.2.2.1
    have h5 := hD.2.2.2.2.2.1
    have h6 := hD.2.2.2.2.2.2.1
    have h7 := hD.2.2.2.2.2.2.2.1
    have h8 := hD.2.2.2.2.2.2.2.2.1
    have h9 := hD.2.2.2.2.2.2.2.2.2.1
    have h10 := hD.2.2.2.2.2.2.2.2.2.2.1
    have h11 := hD.2.2.2.2.2.2.2.2.2.2.2.1
    have h12 := hD.2.2.2.2.2.2.2.2.2.2.2.2.1
    have h13 := hD.2.2.2.2.2.2.2.2.2.2.2.2.2.1
    have h14 := hD.2.2.2.2.2.2.2.2.2.2.2.2.2.2.1
    have h15 := hD.2.2.2.2.2.2.2.2.2.2.2.2.2.2.2.1
    have h16 := hD.2.2.2.2.2.2.2.2.2.2.2.2.2.2.2.2.1
    have h17 := hD.2.2.2.2.2.2.2.2.2.2.2.2.2.2.2.2.2.1
    have h18 := hD.2.2.2.2.2.2.2.2.2.2.2.2.2.2.2.2.2.2.1
    have h19 := hD.2.2.2.2.2.2.2.2.2.2.2.2.2.2.2.2.2.2.2.1
    have h20 := hD.2.2.2.2.2.2.2.2.2.2.2.2.2.2.2.2.2.2.2.2.1
    have h21 := hD.2.2.2.2.2.2.2.2.2.2.2.2.2.2.2.2.2.2.2.2.2.1
    have h22 := hD.2.2.2.2.2.2.2.2.2.2.2.2.2.2.2.2.2.2.2.2.2.2.1
    have h23 := hD.2.2.2.2.2.2.2.2.2.2.2.2.2.2.2.2.2.2.2.2.2.2.2.1
    have h24 := hD.2.2.2.2.2.2.2.2.2.2.2.2.2.2.2.2.2.2.2.2.2.2.2.2.1
    have h25 := hD.2.2.2.2.2.2.2.2.2.2.2.2.2.2.2.2.2.2.2.2.2.2.2.2.2.1
    have h26 := hD.2.2.2.2.2.2.2.2.2.2.2.2.2.2.2.2.2.2.2.2.2.2.2.2.2.2
    clear hD
    simp only [fillL, Act.put, List.setIfInBounds_toArray, List.set_cons_zero, List.set_cons_succ, List.getD_cons_zero, List.getD_cons_succ, Is] at hK ⊢
    simp only [h0, h2, h3, h6, h7, h8, h9, h10, h11, h12, h15, h18, h19, h20, h21, h22, h23, h24, h25, h26] at hK ⊢
    clear h0 h2 h3 h6 h7 h8 h9 h10 h11 h12 h15 h18 h19 h20 h21 h22 h23 h24 h25 h26
    refine ite_yes (by rfl) ?_
    go_simp
    exact hK _ _ _ rfl (Grew.refl _) rfl
  refine ⟨?_, ?_⟩
  · intro y w2 hG hD K hK
    simp only [depsH, List.getD_cons_zero, List.getD_cons_succ, Is, and_true] at hD
    have h0 := hD.1
    have h1 := hD.2.1
    have h2 := hD.2.2.1
    have h3 := hD.2.2.2.1
    have h4 := hD.2.2.2.2.1
    have h5 := hD.2.2.2.2.2.1
    have h6 := hD.2.2.2.2.2.2.1
    have h7 := hD.2.2.2.2.2.2.2.1
    have h8 := hD.2.2.2.2.2.2.2.2.1
    have h9 := hD.2.2.2.2.2.2.2.2.2.1
    have h10 := hD.2.2.2.2.2.2.2.2.2.2.1
    have h11 := hD.2.2.2.2.2.2.2.2.2.2.2.1
    have h12 := hD.2.2.2.2.2.2.2.2.2.2.2.2.1
    have h13 := hD.2.2.2.2.2.2.2.2.2.2.2.2.2.1
    have h14 := hD.2.2.2.2.2.2.2.2.2.2.2.2.2.2.1
    have h15 := hD.2.2.2.2.2.2.2.2.2.2.2.2.2.2.2.1
    have h16 := hD.2.2.2.2.2.2.2.2.2.2.2.2.2.2.2.2.1
    have h17 := hD.2.2.2.2.2.2.2.2.2.2.2.2.2.2.2.2.2.1
    have h18 := hD.2.2.2.2.2.2.2.2.2.2.2.2.2.2.2.2.2.2.1
    have h19 := hD.2.2.2.2.2.2.2.2.2.2.2.2.2.2.2.2.2.2.2.1
    have h20 := hD.2.2.2.2.2.2.2.2.2.2.2.2.2.2.2.2.2.2.2.2.1
    have h21 := hD.2.2.2.2.2.2.2.2.2.2.2.2.2.2.2.2.2.2.2.2.2.1
    have h22 := hD.2.2.2.2.2.2.2.2.2.2.2.2.2.2.2.2.2.2.2.2.2.2.1
    have h23 := hD.2.2.2.2.2.2.2.2.2.2.2.2.2.2.2.2.2.2.2.2.2.2.2.1
    have h24 := hD.2.2.2.2.2.2.2.2.2.2.2.2.2.2.2.2.2.2.2.2.2.2.2.2.1
    have h25 := hD.2.2.2.2.2.2.2.2.2.2.2.2.2.2.2.2.2.2.2.2.2.2.2.2.2.1
    have h26 := hD.2.2.2.2.2.2.2.2.2.2.2.2.2.2.2.2.2.2.2.2.2.2.2.2.2.2.1
    have h27 := hD.2.2.2.2.2.2.2.2.2.2.2.2.2.2.2.2.2.2.2.2.2.2.2.2.2.2.2.1
    have h28 := hD.2.2.2.2.2.2.2.2.2.2.2.2.2.2.2.2.2.2.2.2.2.2.2.2.2.2.2.2
    clear hD
    simp only [fillL, Act.put, List.setIfInBounds_toArray, List.set_cons_zero, List.set_cons_succ, List.getD_cons_zero, List.getD_cons_succ, Is] at hK ⊢
    simp only [h0, h2, h3, h6, h7, h8, h9, h10, h11, h12, h15, h18, h19, h20, h21, h22, h23, h24, h25, h26, h27, h28] at hK ⊢
    clear h0 h2 h3 h6 h7 h8 h9 h10 h11 h12 h15 h18 h19 h20 h21 h22 h23 h24 h25 h26 h27 h28
    refine ite_yes (by rfl) ?_
    go_simp
    refine (alike_any (.mk 0 0 0 ⟨#[]⟩ [] []) (.mk 0 0 0 ⟨#[]⟩ [] []) _ _ w2 (leaf_nd 0 0 0 ⟨#[]⟩ (by unfold i64ok u64ok lenok; decide) _) (leaf_nd 0 0 0 ⟨#[]⟩ (by unfold i64ok u64ok lenok; decide) _) (by decide) (by decide)).mono ?_
    rintro r w3 ⟨bq, rfl, hbq, hg3⟩
    obtain rfl : bq = false := by cases bq; rfl; exact absurd (hbq.1 rfl) w09_g
    exact hK _ _ _ rfl hg3 rfl
  refine ⟨?_, ?_⟩
  · intro y w2 hG hD K hK
    simp only [depsH, List.getD_cons_zero, List.getD_cons_succ, Is, and_true] at hD
    have h0 := hD.1
    have h1 := hD.2.1
    have h2 := hD.2.2.1
    have h3 := hD.2.2.2.1
    have h4 := hD.2.2.2.2.1
    have h5 := hD.2.2.2.2.2.1
    have h6 := hD.2.2.2.2.2.2.1
    have h7 := hD.2.2.2.2.2.2.2.1
    have h8 := hD.2.2.2.2.2.2.2.2.1
    have h9 := hD.2.2.2.2.2.2.2.2.2.1
    have h10 := hD.2.2.2.2.2.2.2.2.2.2.1
    have h11 := hD.2.2.2.2.2.2.2.2.2.2.2.1
    have h12 := hD.2.2.2.2.2.2.2.2.2.2.2.2.1
    have h13 := hD.2.2.2.2.2.2.2.2.2.2.2.2.2.1
    have h14 := hD.2.2.2.2.2.2.2.2.2.2.2.2.2.2.1
    have h15 := hD.2.2.2.2.2.2.2.2.2.2.2.2.2.2.2.1
    have h16 := hD.2.2.2.2.2.2.2.2.2.2.2.2.2.2.2.2.1
    have h17 := hD.2.2.2.2.2.2.2.2.2.2.2.2.2.2.2.2.2.1
    have h18 := hD.2.2.2.2.2.2.2.2.2.2.2.2.2.2.2.2.2.2.1
    have h19 := hD.2.2.2.2.2.2.2.2.2.2.2.2.2.2.2.2.2.2.2.1
    have h20 := hD.2.2.2.2.2.2.2.2.2.2.2.2.2.2.2.2.2.2.2.2.1
    have h21 := hD.2.2.2.2.2.2.2.2.2.2.2.2.2.2.2.2.2.2.2.2.2.1
    have h22 := hD.2.2.2.2.2.2.2.2.2.2.2.2.2.2.2.2.2.2.2.2.2.2.1
    have h23 := hD.2.2.2.2.2.2.2.2.2.2.2.2.2.2.2.2.2.2.2.2.2.2.2.1
    have h24 := hD.2.2.2.2.2.2.2.2.2.2.2.2.2.2.2.2.2.2.2.2.2.2.2.2.1
    have h25 := hD.2.2.2.2.2.2.2.2.2.2.2.2.2.2.2.2.2.2.2.2.2.2.2.2.2.1
    have h26 := hD.2.2.2.2.2.2.2.2.2.2.2.2.2.2.2.2.2.2.2.2.2.2.2.2.2.2.1
    have h27 := hD.2.2.2.2.2.2.2.2.2.2.2.2.2.2.2.2.2.2.2.2.2.2.2.2.2.2.2.1
    have h28 := hD.2.2.2.2.2.2.2.2.2.2.2.2.2.2.2.2.2.2.2.2.2.2.2.2.2.2.2.2.1
    have h29 := hD.2.2.2.2.2.2.2.2.2.2.2.2.2.2.2.2.2.2.2.2.2.2.2.2.2.2.2.2.2
    clear hD
    simp only [fillL, Act.put, List.setIfInBounds_toArray, List.set_cons_zero, List.set_cons_succ, List.getD_cons_zero, List.getD_cons_succ, Is] at hK ⊢
    simp only [h0, h2, h3, h6, h7, h8, h9, h10, h11, h12, h15, h18, h19, h20, h21, h22, h23, h24, h25, h26, h27, h28, h29] at hK ⊢
    clear h0 h2 h3 h6 h7 h8 h9 h10 h11 h12 h15 h18 h19 h20 h21 h22 h23 h24 h25 h26 h27 h28 h29
    refine ite_yes (by rfl) ?_
    go_simp
    exact hK _ _ _ rfl (Grew.refl _) rfl
  refine ⟨?_, ?_⟩
  · intro y w2 hG hD K hK
    simp only [depsH, List.getD_cons_zero, List.getD_cons_succ, Is, and_true] at hD
    have h0 := hD.1
    have h1 := hD.2.1
    have h2 := hD.2.2.1
    have h3 := hD.2.2.2.1
    have h4 := hD.2.2.2.2.1
    have h5 := hD.2.2.2.2.2.1
    have h6 := hD.2.2.2.2.2.2.1
    have h7 := hD.2.2.2.2.2.2.2.1
    have h8 := hD.2.2.2.2.2.2.2.2.1
    have h9 := hD.2.2.2.2.2.2.2.2.2.1
    have h10 := hD.2.2.2.2.2.2.2.2.2.2.1
    have h11 := hD.2.2.2.2.2.2.2.2.2.2.2.1
    have h12 := hD.2.2.2.2.2.2.2.2.2.2.2.2.1
    have h13 := hD.2.2.2.2.2.2.2.2.2.2.2.2.2.1
    have h14 := hD.2.2.2.2.2.2.2.2.2.2.2.2.2.2.1
    have h15 := hD.2.2.2.2.2.2.2.2.2.2.2.2.2.2.2.1
    have h16 := hD.2.2.2.2.2.2.2.2.2.2.2.2.2.2.2.2.1
    have h17 := hD.2.2.2.2.2.2.2.2.2.2.2.2.2.2.2.2.2.1
    have h18 := hD.2.2.2.2.2.2.2.2.2.2.2.2.2.2.2.2.2.2.1
    have h19 := hD.2.2.2.2.2.2.2.2.2.2.2.2.2.2.2.2.2.2.2.1
    have h20 := hD.2.2.2.2.2.2.2.2.2.2.2.2.2.2.2.2.2.2.2.2.1
    have h21 := hD.2.2.2.2.2.2.2.2.2.2.2.2.2.2.2.2.2.2.2.2.2.1
    have h22 := hD.2.2.2.2.2.2.2.2.2.2.2.2.2.2.2.2.2.2.2.2.2.2.1
    have h23 := hD.2.2.2.2.2.2.2.2.2.2.2.2.2.2.2.2.2.2.2.2.2.2.2.1
    have h24 := hD.2.2.2.2.2.2.2.2.2.2.2.2.2.2.2.2.2.2.2.2.2.2.2.2.1
    have h25 := hD.2.2.2.2.2.2.2.2.2.2.2.2.2.2.2.2.2.2.2.2.2.2.2.2.2.1
    have h26 := hD.2.2.2.2.2.2.2.2.2.2.2.2.2.2.2.2.2.2.2.2.2.2.2.2.2.2.1
    have h27 := hD.2.2.2.2.2.2.2.2.2.2.2.2.2.2.2.2.2.2.2.2.2.2.2.2.2.2.2.1
    have h28 := hD.2.2.2.2.2.2.2.2.2.2.2.2.2.2.2.2.2.2.2.2.2.2.2.2.2.2.2.2.1
    have h29 := hD.2.2.2.2.2.2.2.2.2.2.2.2.2.2.2.2.2.2.2.2.2.2.2.2.2.2.2.2.2.1
    have h30 := hD.2.2.2.2.2.2.2.2.2.2.2.2.2.2.2.2.2.2.2.2.2.2.2.2.2.2.2.2.2.2
    clear hD
    simp only [fillL, Act.put, List.setIfInBounds_toArray, List.set_cons_zero, List.set_cons_succ, List.getD_cons_zero, List.getD_cons_succ, Is] at hK ⊢
    simp only [h0, h2, h3, h6, h7, h8, h9, h10, h11, h12, h15, h18, h19, h20, h21, h22, h23, h24, h25, h26, h27, h28, h29, h30] at hK ⊢
    clear h0 h2 h3 h6 h7 h8 h9 h10 h11 h12 h15 h18 h19 h20 h21 h22 h23 h24 h25 h26 h27 h28 h29 h30
    refine ite_yes (by rfl) ?_
    go_simp
    exact hK _ _ _ rfl (Grew.refl _) rfl
  refine ⟨?_, ?_⟩
  · intro y w2 hG hD K hK
    simp only [depsH, List.getD_cons_zero, List.getD_cons_succ, Is, and_true] at hD
    have h0 := hD.1
    have h1 := hD.2.1
    have h2 := hD.2.2.1
    have h3 := hD.2.2.2.1
    have h4 := hD.2.2.2.2.1
    have h5 := hD.2.2.2.2.2.1
    have h6 := hD.2.2.2.2.2.2.1
    have h7 := hD.2.2.2.2.2.2.2.1
    have h8 := hD.2.2.2.2.2.2.2.2.1
    have h9 := hD.2.2.2.2.2.2.2.2.2.1
    have h10 := hD.2.2.2.2.2.2.2.2.2.2.1
    have h11 := hD.2.2.2.2.2.2.2.2.2.2.2.1
    have h12 := hD.2.2.2.2.2.2.2.2.2.2.2.2.1
    have h13 := hD.2.2.2.2.2.2.2.2.2.2.2.2.2.1
    have h14 := hD.2.2.2.2.2.2.2.2.2.2.2.2.2.2.1
    have h15 := hD.2.2.2.2.2.2.2.2.2.2.2.2.2.2.2.1
    have h16 := hD.2.2.2.2.2.2.2.2.2.2.2.2.2.2.2.2.1
    have h17 := hD.2.2.2.2.2.2.2.2.2.2.2.2.2.2.2.2.2.1
    have h18 := hD.2.2.2.2.2.2.2.2.2.2.2.2.2.2.2.2.2.2.1
    have h19 := hD.2.2.2.2.2.2.2.2.2.2.2.2.2.2.2.2.2.2.2.1
    have h20 := hD.2.2.2.2.2.2.2.2.2.2.2.2.2.2.2.2.2.2.2.2.1
    have h21 := hD.2.2.2.2.2.2.2.2.2.2.2.2.2.2.2.2.2.2.2.2.2.1
    have h22 := hD.2.2.2.2.2.2.2.2.2.2.2.2.2.2.2.2.2.2.2.2.2.2.1
    have h23 := hD.2.2.2.2.2.2.2.2.2.2.2.2.2.2.2.2.2.2.2.2.2.2.2.1
    have h24 := hD.2.2.2.2.2.2.2.2.2.2.2.2.2.2.2.2.2.2.2.2.2.2.2.2.1
    have h25 := hD.2.2.2.2.2.2.2.2.2.2.2.2.2.2.2.2.2.2.2.2.2.2.2.2.2.1
    have h26 := hD.2.2.2.2.2.2.2.2.2.2.2.2.2.2.2.2.2.2.2.2.2.2.2.2.2.2.1
    have h27 := hD.2.2.2.2.2.2.2.2.2.2.2.2.2.2.2.2.2.2.2.2.2.2.2.2.2.2.2.1
    have h28 := hD.2.2.2.2.2.2.2.2.2.2.2.2.2.2.2.2.2.2.2.2.2.2.2.2.2.2.2.2.1
    have h29 := hD.2.2.2.2.2.2.2.2.2.2.2.2.2.2.2.2.2.2.2.2.2.2.2.2.2.2.2.2.2.1
    have h30 := hD.2.2.2.2.2.2.2.2.2.2.2.2.2.2.2.2.2.2.2.2.2.2.2.2.2.2.2.2.2.2.1
    have h31 := hD.2.2.2.2.2.2.2.2.2.2.2.2.2.2.2.2.2.2.2.2.2.2.2.2.2.2.2.2.2.2.2
    clear hD
    simp only [fillL, Act.put, List.setIfInBounds_toArray, List.set_cons_zero, List.set_cons_succ, List.getD_cons_zero, List.getD_cons_succ, Is] at hK ⊢
    simp only [h0, h2, h3, h6, h7, h8, h9, h10, h11, h12, h15, h18, h19, h20, h21, h22, h23, h24, h25, h26, h27, h28, h29, h30, h31] at hK ⊢
    clear h0 h2 h3 h6 h7 h8 h9 h10 h11 h12 h15 h18 h19 h20 h21 h22 h23 h24 h25 h26 h27 h28 h29 h30 h31
    refine ite_yes (by rfl) ?_
    go_simp
    exact hK _ _ _ rfl (Grew.refl _) rfl
  trivial
end Go.Proofs.Ytfbeepkogcmlmaa

/-
  Trees: Size and At, by the iterator over a tree's nodes. Conditions: the tree can be read.
-/
namespace Go.Proofs.Ytfbeepkogcmlmaa
open Go Go.ChangeShapes Go.WideShapes Go.ChangeAt Go.RowKit Go.Joins Go.Deep Go.Shelf
set_option linter.unusedVariables false
set_option linter.unusedSimpArgs false
attribute [local go_sem] Oper.semAt_some

/-- Between two rounds of Size. -/
def SzI (w : World) (n : Nat) (W : World) : Prop := W.heap[w.heap.size + 1]? = some (.cells #[.int .i64 n] 3 (0, 0)) ∧ Grew w W
theorem SzI.own (w : World) {B : Nat} (hB : w.heap.size ≤ B) : OwnFrom B (fun (s : List (Visit (fun _ => True) w)) W => SzI w s.length W) := by
  rintro s A C row ⟨h1, h3⟩ hg hr
  exact ⟨kept_cells hg (fun r e => (hr r e).2) h1 rfl, grew_turn h3 hg (fun r e => (hr r e).1) hB⟩
set_option maxRecDepth 100000 in
set_option maxHeartbeats 4000000 in
theorem size_any (t : Tr) (v : Value) (w : World) (hn : NodeAt w t v) (hsz : t.size ≤ 1099511627776) :
    Calls Try.prog 24 #[v] w fun r w' => r = .returned (.int .i64 t.size) ∧ Grew w w' := by
  have h6 := hn.node6
  refine (callsIn_wide (n := 3)).1 ?_
  obtain ⟨xk, xn, xu, xs, xa4, xn4, xc4, xa5, xn5, xc5, rfl⟩ := h6
  refine callsIn_of_wp_marks Try.func24 rfl trivial ?_ rfl
  simp only [Try.ntmps24, List.size_toArray, List.length_cons, List.length_nil, Nat.reduceAdd, Nat.reduceSub, Array.replicate_succ, Array.replicate_zero, List.push_toArray, List.append_toArray, List.nil_append, List.cons_append]
  have hdd : ∀ q : Nat, (Fence.wide.depth.isSome = true → 1 ≤ q) := fun q h => by cases h
  gi_wp2_with (refine ⟨trivial, ?_⟩; refine (callsIn_wide.2 (walked_any _ _ ⟨_, _, _, _, _, _, _, _, _, _, rfl⟩)).mono ?_; rintro r w2 ⟨rfl, hw2⟩; have HW2 := Lib.hid hw2; clear hw2)
  obtain ⟨V, hV⟩ : ∃ V : Value, V = .agg #[.int .i64 xk, .int .i64 xn, .int .u64 xu, .string xs, .slice xa4 xn4 xc4, .slice xa5 xn5 xc5] := ⟨_, rfl⟩
  rw [← hV] at hn
  have HV := Lib.hid hV
  have hF : Hid (Grew w w2 ∧ w2.heap.size = w.heap.size + 3 ∧ w2.heap[w.heap.size + 1]? = some (.cells #[.int .i64 0] 3 (0, 0)) ∧ w2.heap[w.heap.size + 2]? = some (.cells V.cells 26 (0, 0))) := by
    show _ ∧ _
    rw [HW2.out, hV]
    obtain ⟨A, hA⟩ : ∃ A, w.alloc (.cells #[.int .i64 xk, .int .i64 xn, .int .u64 xu, .string xs, .slice xa4 xn4 xc4, .slice xa5 xn5 xc5] 26) = A := ⟨_, rfl⟩
    have sA : A.heap.size = w.heap.size + 1 := by rw [← hA, World.size_alloc]
    have gA : Grew w A := by rw [← hA]; exact (Grew.refl _).alloc _
    rw [hA]
    obtain ⟨B, hB⟩ : ∃ B, A.alloc (.cells #[.int .i64 0] 3) = B := ⟨_, rfl⟩
    have sB : B.heap.size = w.heap.size + 2 := by rw [← hB, World.size_alloc, sA]
    have gB : Grew A B := by rw [← hB]; exact (Grew.refl _).alloc _
    have bB := heap_alloc_new A (.cells #[.int .i64 0] 3)
    rw [hB, sA] at bB
    rw [hB]
    have gD := (Grew.refl B).alloc (.cells (Value.agg #[.int .i64 xk, .int .i64 xn, .int .u64 xu, .string xs, .slice xa4 xn4 xc4, .slice xa5 xn5 xc5]).cells 26)
    have bD := heap_alloc_new B (.cells (Value.agg #[.int .i64 xk, .int .i64 xn, .int .u64 xu, .string xs, .slice xa4 xn4 xc4, .slice xa5 xn5 xc5]).cells 26)
    rw [sB] at bD
    exact ⟨gA.trans (gB.trans gD), by rw [World.size_alloc, sB], gD.heap bB, bD⟩
  refine wpIn_rangeFunc_ownH rfl (by omega) (gf := 53) (lb := #[.pointer (some ⟨w.heap.size + 2, 0, none⟩)]) rfl trivial (enters_of Try.func53 (by kernel_rfl) rfl)
    (walked_stops (fun _ => True) (fun _ _ _ _ => trivial) _ w w2 (w.heap.size + 2) w.heap.size (w.heap.size + 2) t V hn (CellsK.of_grew hF.out.1) (Nat.le_refl _) (by have := hF.out.2.1; omega) hF.out.2.2.2 hsz trivial)
    KpC.trans (fun W l o o' _ h ho _ => KpC.turn W l o o' h ho) (Below.refl _ _) (fun _ => rfl)
    (fun pre W => SzI w pre.length W) (fun c pre W => False)
    (SzI.own w hF.out.1.size) (fun c => fun _ _ _ _ h _ _ => h.elim)
    ⟨hF.out.2.2.1, hF.out.1⟩
    (fun x a' W => a' = { tmps := #[.agg #[.int .i64 xk, .int .i64 xn, .int .u64 xu, .string xs, .slice xa4 xn4 xc4, .slice xa5 xn5 xc5], .pointer (some ⟨w.heap.size, 0, none⟩), .pointer (some ⟨w.heap.size + 1, 0, none⟩), .agg #[.int .i64 xk, .int .i64 xn, .int .u64 xu, .string xs, .slice xa4 xn4 xc4, .slice xa5 xn5 xc5], .func (.func 53) #[] #[.pointer (some ⟨w.heap.size + 2, 0, none⟩)], .int .i64 x.1.1, x.1.2.1, undef, undef, undef], defers := [] })
    ?hAx ?assign ?body ?done ?stop
  case hAx =>
    rintro x a' s A C row h hg hr
    exact h
  case assign =>
    rintro l pre ⟨⟨b, v, x⟩, hx, hb⟩ W K hi hK
    have HI := Lib.hid hi
    have HK := Lib.hid hK
    clear hi hK hn hV HW2
    simp only [Visit.encs]
    gi_wp2
    exact HK.out _ _ (keeps_grew (Grew.refl W)) (KpC.of_grew (Grew.refl W)) HI.out rfl
  case body =>
    rintro l pre X a' W hl _ hi rfl hlt
    obtain ⟨i2, i3⟩ := hi
    have hwr : wrap64 ((pre.length : Int) + 1) = (pre.length : Int) + 1 := IntWalk.wrap64_in _ (by omega)
    have q2 := row_cellT i2 0 _ rfl
    have f2 := row_frozen i2 0
    obtain ⟨W', hW'⟩ : ∃ W', W.setCell ⟨w.heap.size + 1, 0, none⟩ (.int .i64 ((pre.length : Int) + 1)) = W' := ⟨_, rfl⟩
    have hm : Moved (fun g => g = w.heap.size + 1) W W' := by rw [← hW']; exact Moved.setCell (S := fun g => g = w.heap.size + 1) (p := ⟨w.heap.size + 1, 0, none⟩) (Moved.refl _ W) (fun _ => rfl) _
    have j2 : W'.heap[w.heap.size + 1]? = some (.cells #[.int .i64 ((pre.length : Int) + 1)] 3 (0, 0)) := by rw [← hW']; have := heap_setCell_same W (w.heap.size + 1) 0 _ _ (.int .i64 ((pre.length : Int) + 1)) i2; simpa using this
    have j3 : Grew w W' := Moved.fresh i3 hm (fun g h => by omega)
    have HKF : Hid (KeepsFrom w2.heap.size W W' ∧ KpC w.heap.size (w.heap.size + 2) W W') := by
      show _ ∧ _
      rw [← hW']
      exact ⟨KeepsOthers.from (KeepsOthers.setCell _ _ _) _, KpC.setCell _ _ (by omega) (by omega) _⟩
    have HJ : Hid (SzI w (pre ++ [X]).length W') := by
      refine ⟨?_, j3⟩
      rw [j2, List.length_append]; rfl
    clear i2 i3 hm j2 j3 hl hlt hn hV HW2
    gi_wp2
    exact ⟨HKF.out.1, HKF.out.2, HJ.out⟩
  case done =>
    rintro D ys W hD hys ⟨h1, h2⟩ hK
    have hlen : ys.length = t.size := by
      have := congrArg List.length hys
      rwa [List.length_map, preT_length] at this
    rw [hlen] at h1
    have c1 := row_cellT h1 0 _ rfl
    have f1 := row_frozen h1 0
    obtain ⟨W', hW'⟩ : ∃ W', W.setCell ⟨w.heap.size + 1, 0, none⟩ (.int .i64 t.size) = W' := ⟨_, rfl⟩
    have hdl := hF.out.2.1
    have hm : Moved (fun g => g = w.heap.size + 1) W W' := by rw [← hW']; exact Moved.setCell (S := fun g => g = w.heap.size + 1) (p := ⟨w.heap.size + 1, 0, none⟩) (Moved.refl _ W) (fun _ => rfl) _
    have hK' := hm.heap hK (by omega)
    have hb' : W'.heap[w.heap.size + 1]? = some (.cells #[.int .i64 t.size] 3 (0, 0)) := by rw [← hW']; have := heap_setCell_same W (w.heap.size + 1) 0 _ _ (.int .i64 t.size) h1; simpa using this
    have hg' : Grew w W' := Moved.fresh h2 hm (fun g h => by omega)
    have HB := Lib.hid (And.intro hb' hg')
    have HKK := Lib.hid hK'
    have HDL : Hid (w.heap.size + 3 ≤ D) := by show _ ≤ _; omega
    clear h1 h2 hys hm hK hK' hb' hg' hD hdl hn hV HW2 hlen
    gi_wp2
    refine ⟨by simp, .inl ⟨_, _, rfl, run_takeDeferred HKK.out, ?_⟩⟩
    have hput : Grew w (W'.putObj D (.deferred none)) := grew_turn HB.out.2 (grownBy_putObj' W' D _) (fun r e => by cases e; exact Nat.le_refl _) (by have := HDL.out; omega)
    have hcell := row_cellT ((World.putObj_heap_other (by have := HDL.out; omega : w.heap.size + 1 ≠ D)).trans HB.out.1 : (W'.putObj D (.deferred none)).heap[w.heap.size + 1]? = _) 0 _ rfl
    refine ⟨.int .i64 t.size, by simp [results, Try.results24, go_sem, hcell], rfl, hput⟩
  case stop =>
    rintro D c pre W' hD ⟨zs, hpre⟩ h hK
    exact h.elim
/-- Between two rounds of At. -/
def AtI (w : World) (n k : Nat) (W : World) : Prop :=
  k ≤ n ∧ W.heap[w.heap.size + 2]? = some (.cells #[.int .i64 0, .int .i64 0, .int .u64 0, .string ⟨#[]⟩, .slice none 0 0, .slice none 0 0] 26 (0, 0)) ∧ W.heap[w.heap.size + 3]? = some (.cells #[.bool false] 4 (0, 0)) ∧
    W.heap[w.heap.size + 4]? = some (.cells #[.int .i64 k] 3 (0, 0)) ∧ W.heap[w.heap.size + 1]? = some (.cells #[.int .i64 n] 3 (0, 0)) ∧ Grew w W
/-- Where At has found the node. -/
def AtX (w : World) (n : Nat) (ps : List (Nat × Tr)) (W : World) : Prop :=
  ∃ b x c0 c1 c2 c3 c4 c5, ps[n]? = some (b, x) ∧ W.heap[w.heap.size + 2]? = some (.cells #[c0, c1, c2, c3, c4, c5] 26 (0, 0)) ∧ W.heap[w.heap.size + 3]? = some (.cells #[.bool true] 4 (0, 0)) ∧
    NodeAt W x (.agg #[c0, c1, c2, c3, c4, c5]) ∧ Grew w W
theorem few_kids : ∀ t, Few t → ∀ x ∈ t.kids, Few x := by
  rintro ⟨k, n, u, s, keys, l⟩ h x hx
  exact FewL.mem h.2.2 hx
theorem keeps_store6 (B : Nat) (W : World) (g : Nat) (a b c d e f : Value) : KeepsFrom B W (store6 W g a b c d e f) :=
  (((((KeepsOthers.from (KeepsOthers.setCell _ _ _) _).trans (KeepsOthers.from (KeepsOthers.setCell _ _ _) _)).trans (KeepsOthers.from (KeepsOthers.setCell _ _ _) _)).trans (KeepsOthers.from (KeepsOthers.setCell _ _ _) _)).trans (KeepsOthers.from (KeepsOthers.setCell _ _ _) _)).trans (KeepsOthers.from (KeepsOthers.setCell _ _ _) _)
theorem at_found {w W : World} {n b : Nat} {x : Tr} {ps : List (Nat × Tr)} {c0 c1 c2 c3 c4 c5 : Value} (h1 : ps[n]? = some (b, x)) (h2 : W.heap[w.heap.size + 2]? = some (.cells #[c0, c1, c2, c3, c4, c5] 26 (0, 0))) (h3 : W.heap[w.heap.size + 3]? = some (.cells #[.bool true] 4 (0, 0)))
    (h4 : NodeAt W x (.agg #[c0, c1, c2, c3, c4, c5])) (h5 : Grew w W) : AtX w n ps W := ⟨b, x, c0, c1, c2, c3, c4, c5, h1, h2, h3, h4, h5⟩
theorem cellsK_turn {W W' : World} {row : Option Nat} (hg : W.grownBy W' row) (hr : ∀ r, row = some r → ∃ o : Obj, W.heap[r]? = some o ∧ o.isCells = false) : CellsK W W' := fun k o hk ho => kept_cells hg hr hk ho
theorem AtI.own (w : World) (n : Nat) {B : Nat} (hB : w.heap.size ≤ B) : OwnFrom B (fun (s : List (Visit Few w)) W => AtI w n s.length W) := by
  rintro s A C row ⟨h0, h1, h2, h3, h4, h5⟩ hg hr
  have hc := fun r e => (hr r e).2
  exact ⟨h0, kept_cells hg hc h1 rfl, kept_cells hg hc h2 rfl, kept_cells hg hc h3 rfl, kept_cells hg hc h4 rfl, grew_turn h5 hg (fun r e => (hr r e).1) hB⟩
theorem AtX.own (w : World) (n : Nat) {B : Nat} (hB : w.heap.size ≤ B) : OwnFrom B (fun (s : List (Visit Few w)) W => AtX w n (s.map Visit.key) W) := by
  rintro s A C row ⟨b, x, c0, c1, c2, c3, c4, c5, h0, h1, h2, h3, h5⟩ hg hr
  have hc := fun r e => (hr r e).2
  exact ⟨b, x, c0, c1, c2, c3, c4, c5, h0, kept_cells hg hc h1 rfl, kept_cells hg hc h2 rfl, h3.cells (cellsK_turn hg hc), grew_turn h5 hg (fun r e => (hr r e).1) hB⟩
/-- What At hands back. -/
def AtOut (w : World) (t : Tr) (n : Nat) (r : Ending) (w' : World) : Prop :=
  Grew w w' ∧ ((∃ b x v, (preT 0 t)[n]? = some (b, x) ∧ r = .returned (.tuple #[v, .bool true]) ∧ NodeAt w' x v) ∨ ((preT 0 t)[n]? = none ∧ r = .returned (.tuple #[zeroNode, .bool false])))
theorem alloc_step {A : World} {k : Nat} (hs : A.heap.size = k) (o : Obj) : ∃ B, A.alloc o = B ∧ Grew A B ∧ B.heap.size = k + 1 ∧ B.heap[k]? = some o := by
  refine ⟨_, rfl, (Grew.refl _).alloc _, by rw [World.size_alloc, hs], ?_⟩
  rw [← hs]; exact heap_alloc_new A o
set_option maxRecDepth 100000 in
set_option maxHeartbeats 4000000 in
theorem at_any (t : Tr) (n : Nat) (hnn : n ≤ 1099511627776) (v : Value) (w : World) (hn : NodeAt w t v) (hfew : Few t) (hsz : t.size ≤ 1099511627776) :
    Calls Try.prog 25 #[v, .int .i64 n] w fun r w' => AtOut w t n r w' := by
  have h6 := hn.node6
  refine (callsIn_wide (n := 3)).1 ?_
  obtain ⟨xk, xn, xu, xs, xa4, xn4, xc4, xa5, xn5, xc5, rfl⟩ := h6
  refine callsIn_of_wp_marks Try.func25 rfl trivial ?_ rfl
  simp only [Try.ntmps25, List.size_toArray, List.length_cons, List.length_nil, Nat.reduceAdd, Nat.reduceSub, Array.replicate_succ, Array.replicate_zero, List.push_toArray, List.append_toArray, List.nil_append, List.cons_append]
  have hdd : ∀ q : Nat, (Fence.wide.depth.isSome = true → 1 ≤ q) := fun q h => by cases h
  gi_wp2_with (refine ⟨trivial, ?_⟩; refine (callsIn_wide.2 (walked_any _ _ ⟨_, _, _, _, _, _, _, _, _, _, rfl⟩)).mono ?_; rintro r w2 ⟨rfl, hw2⟩; have HW2 := Lib.hid hw2; clear hw2)
  obtain ⟨V, hV⟩ : ∃ V : Value, V = .agg #[.int .i64 xk, .int .i64 xn, .int .u64 xu, .string xs, .slice xa4 xn4 xc4, .slice xa5 xn5 xc5] := ⟨_, rfl⟩
  rw [← hV] at hn
  have HV := Lib.hid hV
  have hF : Hid (Grew w w2 ∧ w2.heap.size = w.heap.size + 6 ∧ w2.heap[w.heap.size + 1]? = some (.cells #[.int .i64 n] 3 (0, 0)) ∧ w2.heap[w.heap.size + 2]? = some (.cells #[.int .i64 0, .int .i64 0, .int .u64 0, .string ⟨#[]⟩, .slice none 0 0, .slice none 0 0] 26 (0, 0)) ∧ w2.heap[w.heap.size + 3]? = some (.cells #[.bool false] 4 (0, 0)) ∧ w2.heap[w.heap.size + 4]? = some (.cells #[.int .i64 0] 3 (0, 0)) ∧ w2.heap[w.heap.size + 5]? = some (.cells V.cells 26 (0, 0))) := by
    show _ ∧ _
    rw [HW2.out, hV]
    obtain ⟨A, hA, gA, sA, bA⟩ := alloc_step (rfl : w.heap.size = w.heap.size) (.cells #[.int .i64 xk, .int .i64 xn, .int .u64 xu, .string xs, .slice xa4 xn4 xc4, .slice xa5 xn5 xc5] 26)
    rw [hA]
    obtain ⟨B, hB, gB, sB, bB⟩ := alloc_step sA (.cells #[.int .i64 n] 3)
    rw [hB]
    obtain ⟨C, hC, gC, sC, bC⟩ := alloc_step sB (.cells #[.int .i64 0, .int .i64 0, .int .u64 0, .string ⟨#[]⟩, .slice none 0 0, .slice none 0 0] 26)
    rw [hC]
    obtain ⟨D, hD, gD, sD, bD⟩ := alloc_step sC (.cells #[.bool false] 4)
    rw [hD]
    obtain ⟨E, hE, gE, sE, bE⟩ := alloc_step sD (.cells #[.int .i64 0] 3)
    rw [hE]
    obtain ⟨G, hG, gG, sG, bG⟩ := alloc_step sE (.cells (Value.agg #[.int .i64 xk, .int .i64 xn, .int .u64 xu, .string xs, .slice xa4 xn4 xc4, .slice xa5 xn5 xc5]).cells 26)
    rw [hG]
    have g1 := gE.trans gG
    have g2 := gD.trans g1
    have g3 := gC.trans g2
    exact ⟨gA.trans (gB.trans g3), sG, g3.heap bB, g2.heap bC, g1.heap bD, gG.heap bE, bG⟩
  refine wpIn_rangeFunc_ownH rfl (by omega) (gf := 53) (lb := #[.pointer (some ⟨w.heap.size + 5, 0, none⟩)]) rfl trivial (enters_of Try.func53 (by kernel_rfl) rfl)
    (walked_stops Few few_kids _ w w2 (w.heap.size + 5) w.heap.size (w.heap.size + 5) t V hn (CellsK.of_grew hF.out.1) (Nat.le_refl _) (by have := hF.out.2.1; omega) hF.out.2.2.2.2.2.2 hsz hfew)
    KpC.trans (fun W l o o' _ h ho _ => KpC.turn W l o o' h ho) (Below.refl _ _) (fun _ => rfl)
    (fun pre W => AtI w n pre.length W) (fun c pre W => c = .ret ∧ AtX w n (pre.map Visit.key) W)
    (AtI.own w n hF.out.1.size) (fun c => OwnFrom.and (ownFrom_pure _ _) (AtX.own w n hF.out.1.size))
    ⟨Nat.zero_le _, hF.out.2.2.2.1, hF.out.2.2.2.2.1, hF.out.2.2.2.2.2.1, hF.out.2.2.1, hF.out.1⟩
    (fun x a' W => ∃ Bx, w.heap.size + 5 ≤ Bx ∧ W.heap[Bx]? = some (.cells x.1.2.1.cells 26 (0, 0)) ∧ a' = { tmps := #[.agg #[.int .i64 xk, .int .i64 xn, .int .u64 xu, .string xs, .slice xa4 xn4 xc4, .slice xa5 xn5 xc5], .int .i64 n, .pointer (some ⟨w.heap.size, 0, none⟩), .pointer (some ⟨w.heap.size + 1, 0, none⟩), .pointer (some ⟨w.heap.size + 2, 0, none⟩), .pointer (some ⟨w.heap.size + 3, 0, none⟩), .pointer (some ⟨w.heap.size + 4, 0, none⟩), undef, .pointer (some ⟨Bx, 0, none⟩), .agg #[.int .i64 xk, .int .i64 xn, .int .u64 xu, .string xs, .slice xa4 xn4 xc4, .slice xa5 xn5 xc5], .func (.func 53) #[] #[.pointer (some ⟨w.heap.size + 5, 0, none⟩)], .int .i64 x.1.1, x.1.2.1, undef, undef, undef, undef, undef, undef, undef, undef], defers := [] })
    ?hAx ?assign ?body ?done ?stop
  case hAx =>
    rintro x a' s A C row ⟨Bx, h1, h2, h3⟩ hg hr
    exact ⟨Bx, h1, kept_cells hg (fun r e => (hr r e).2) h2 rfl, h3⟩
  case assign =>
    rintro l pre ⟨⟨b, v, x⟩, hx, hb⟩ W K hi hK
    obtain ⟨yk, yn, yu, ys, ya4, yn4, yc4, ya5, yn5, yc5, rfl⟩ := hx.node6
    have HI := Lib.hid hi
    have HK := Lib.hid hK
    clear hi hK hn hV HW2
    simp only [Visit.encs]
    gi_wp2
    refine HK.out _ _ (KeepsOthers.from (KeepsOthers.alloc _ _) _) (KpC.of_grew ((Grew.refl W).alloc _)) ?_ ⟨W.heap.size, ?_, heap_alloc_new _ _, rfl⟩
    · exact (AtI.own w n hF.out.1.size).alloc _ HI.out
    · have h1 := (Array.getElem?_eq_some_iff.1 HI.out.2.2.2.1).1
      omega
  case body =>
    rintro l pre X a' W hl _ hi ⟨Bx, hBx, hbx, rfl⟩ hlt
    obtain ⟨b, v, x, hX, hx, hb, hfx⟩ : ∃ b v x, X.1 = (b, v, x) ∧ NodeAt w x v ∧ b ≤ 1099511627776 ∧ Few x := ⟨X.1.1, X.1.2.1, X.1.2.2, rfl, X.2.1, X.2.2.1, X.2.2.2⟩
    have HXK : Hid (X.key = (b, x)) := by show _ = _; simp [Visit.key, hX]
    rw [hX] at hbx ⊢
    clear hX
    have hxn := hx
    obtain ⟨yk, yn, yu, ys, ya4, yn4, yc4, ya5, yn5, yc5, rfl⟩ := hx.node6
    obtain ⟨i0, i1, i2, i3, i4, i5⟩ := hi
    simp only [Value.cells] at hbx
    have e0 := row_cellT hbx 0 _ rfl
    have e1 := row_cellT hbx 1 _ rfl
    have e2 := row_cellT hbx 2 _ rfl
    have e3 := row_cellT hbx 3 _ rfl
    have e4 := row_cellT hbx 4 _ rfl
    have e5 := row_cellT hbx 5 _ rfl
    have q4 := row_cellT i3 0 _ rfl
    have f4 := row_frozen i3 0
    have q1 := row_cellT i4 0 _ rfl
    have HJ := Lib.hid (And.intro i1 (And.intro i2 (And.intro i3 (And.intro i4 i5))))
    have HBX := Lib.hid hBx
    have hpl : (pre.map Visit.key ++ [(b, x)])[pre.length]? = some (b, x) := by
      rw [List.getElem?_append_right (by rw [List.length_map]; exact Nat.le_refl _), List.length_map, Nat.sub_self]; rfl
    have hme : List.map Visit.key (pre ++ [X]) = pre.map Visit.key ++ [(b, x)] := by rw [List.map_append, List.map_singleton, HXK.out]
    have HPL := Lib.hid (And.intro hpl hme)
    by_cases hk : pre.length = n
    · have hkb : ((pre.length : Int) == (n : Int)) = true := by rw [hk]; simp
      have HKN := Lib.hid hk
      have HCOPY := Lib.hid (treecopy_any x.size x (Nat.le_refl _) _ W (hxn.grew i5) hfx)
      clear hk i0 i1 i2 i3 i4 i5 hbx hx hxn hl hlt hn hV HW2 hb hfx hpl hme hBx hnn hfew hsz
      gi_wp2_with (refine ⟨trivial, ?_⟩; gi_at_call 39; refine (CallsIn.inRound l (callsIn_wide.2 HCOPY.out)).mono ?_; clear HCOPY; rintro r w3 ⟨v3, rfl, ho3, hg3⟩; obtain ⟨zk, zn, zu, zs, za4, zn4, zc4, za5, zn5, zc5, rfl⟩ := ho3.node6; have HO3 := Lib.hid ho3; have HG3 := Lib.hid hg3; have z0 := row_cellT (hg3.heap HJ.out.1) 0 _ rfl; have z1 := row_cellT (hg3.heap HJ.out.1) 1 _ rfl; have z2 := row_cellT (hg3.heap HJ.out.1) 2 _ rfl; have z3 := row_cellT (hg3.heap HJ.out.1) 3 _ rfl; have z4 := row_cellT (hg3.heap HJ.out.1) 4 _ rfl; have z5 := row_cellT (hg3.heap HJ.out.1) 5 _ rfl; have y0 := row_frozen (hg3.heap HJ.out.1) 0; have y1 := row_frozen (hg3.heap HJ.out.1) 1; have y2 := row_frozen (hg3.heap HJ.out.1) 2; have y3 := row_frozen (hg3.heap HJ.out.1) 3; have y4 := row_frozen (hg3.heap HJ.out.1) 4; have y5 := row_frozen (hg3.heap HJ.out.1) 5; have b0 := row_cellT (hg3.heap HJ.out.2.1) 0 _ rfl; have b1 := row_frozen (hg3.heap HJ.out.2.1) 0; clear ho3 hg3)
      have hm1 : Moved (fun g => g = w.heap.size + 2) w3 (store6 w3 (w.heap.size + 2) (.int .i64 zk) (.int .i64 zn) (.int .u64 zu) (.string zs) (.slice za4 zn4 zc4) (.slice za5 zn5 zc5)) := moved_store6 w3 _ _ _ _ _ _ _
      have hb1 : (store6 w3 (w.heap.size + 2) (.int .i64 zk) (.int .i64 zn) (.int .u64 zu) (.string zs) (.slice za4 zn4 zc4) (.slice za5 zn5 zc5)).heap[w.heap.size + 2]? = some (.cells #[.int .i64 zk, .int .i64 zn, .int .u64 zu, .string zs, .slice za4 zn4 zc4, .slice za5 zn5 zc5] 26 (0, 0)) := heap_store6 (HG3.out.heap HJ.out.1) (.int .i64 zk) (.int .i64 zn) (.int .u64 zu) (.string zs) (.slice za4 zn4 zc4) (.slice za5 zn5 zc5)
      have hk6 := keeps_store6 w2.heap.size w3 (w.heap.size + 2) (.int .i64 zk) (.int .i64 zn) (.int .u64 zu) (.string zs) (.slice za4 zn4 zc4) (.slice za5 zn5 zc5)
      show KeepsFrom _ W ((store6 w3 (w.heap.size + 2) (.int .i64 zk) (.int .i64 zn) (.int .u64 zu) (.string zs) (.slice za4 zn4 zc4) (.slice za5 zn5 zc5)).setCell ⟨w.heap.size + 3, 0, none⟩ (.bool true)) ∧ _ = _ ∧ AtX w n _ ((store6 w3 (w.heap.size + 2) (.int .i64 zk) (.int .i64 zn) (.int .u64 zu) (.string zs) (.slice za4 zn4 zc4) (.slice za5 zn5 zc5)).setCell ⟨w.heap.size + 3, 0, none⟩ (.bool true))
      generalize store6 w3 (w.heap.size + 2) (.int .i64 zk) (.int .i64 zn) (.int .u64 zu) (.string zs) (.slice za4 zn4 zc4) (.slice za5 zn5 zc5) = W4 at *
      have hm2 : Moved (fun g => g = w.heap.size + 3) W4 (W4.setCell ⟨w.heap.size + 3, 0, none⟩ (.bool true)) := Moved.setCell (S := fun g => g = w.heap.size + 3) (p := ⟨w.heap.size + 3, 0, none⟩) (Moved.refl _ _) (fun _ => rfl) _
      have hWs : w.heap.size + 3 < W.heap.size := (Array.getElem?_eq_some_iff.1 HJ.out.2.1).1
      have hb3 : (W4.setCell ⟨w.heap.size + 3, 0, none⟩ (.bool true)).heap[w.heap.size + 3]? = some (.cells #[.bool true] 4 (0, 0)) := by
        have := heap_setCell_same W4 (w.heap.size + 3) 0 _ _ (.bool true) (hm1.heap (HG3.out.heap HJ.out.2.1) (by omega))
        simpa using this
      have hk7 : KeepsFrom w2.heap.size W4 (W4.setCell ⟨w.heap.size + 3, 0, none⟩ (.bool true)) := KeepsOthers.from (KeepsOthers.setCell _ _ _) _
      generalize W4.setCell ⟨w.heap.size + 3, 0, none⟩ (.bool true) = W5 at *
      refine And.intro (((keeps_grew HG3.out).trans hk6).trans hk7) (And.intro rfl ?_)
      have hA1 : (List.map Visit.key (pre ++ [X]))[n]? = some (b, x) := by rw [HPL.out.2, ← HKN.out]; exact HPL.out.1
      have hA2 := hm2.heap hb1 (by omega)
      have hA3 : NodeAt W5 x (.agg #[.int .i64 zk, .int .i64 zn, .int .u64 zu, .string zs, .slice za4 zn4 zc4, .slice za5 zn5 zc5]) := ((HO3.out.kept hm1 (fun g h e => by have := h.1; omega)).kept hm2 (fun g h e => by have := h.1; omega)).node
      have hA4 : Grew w W5 := Moved.fresh (Moved.fresh (HJ.out.2.2.2.2.trans HG3.out) hm1 (fun g h => by omega)) hm2 (fun g h => by omega)
      exact at_found hA1 hA2 hb3 hA3 hA4
    · have hkb : ((pre.length : Int) == (n : Int)) = false := by
        simp only [beq_eq_false_iff_ne, ne_eq]; omega
      have hwr : wrap64 ((pre.length : Int) + 1) = (pre.length : Int) + 1 := IntWalk.wrap64_in _ (by omega)
      obtain ⟨W', hW'⟩ : ∃ W', W.setCell ⟨w.heap.size + 4, 0, none⟩ (.int .i64 ((pre.length : Int) + 1)) = W' := ⟨_, rfl⟩
      have hm : Moved (fun g => g = w.heap.size + 4) W W' := by rw [← hW']; exact Moved.setCell (S := fun g => g = w.heap.size + 4) (p := ⟨w.heap.size + 4, 0, none⟩) (Moved.refl _ W) (fun _ => rfl) _
      have j2 : W'.heap[w.heap.size + 4]? = some (.cells #[.int .i64 ((pre.length : Int) + 1)] 3 (0, 0)) := by rw [← hW']; have := heap_setCell_same W (w.heap.size + 4) 0 _ _ (.int .i64 ((pre.length : Int) + 1)) i3; simpa using this
      have HKF : Hid (KeepsFrom w2.heap.size W W' ∧ KpC w.heap.size (w.heap.size + 5) W W') := by
        show _ ∧ _
        rw [← hW']
        exact ⟨KeepsOthers.from (KeepsOthers.setCell _ _ _) _, KpC.setCell _ _ (by omega) (by omega) _⟩
      have HJ2 : Hid (AtI w n (pre ++ [X]).length W') := by
        refine ⟨by rw [List.length_append]; simp; omega, hm.heap i1 (by omega), hm.heap i2 (by omega), ?_, hm.heap i4 (by omega), Moved.fresh i5 hm (fun g h => by omega)⟩
        rw [j2, List.length_append]; rfl
      clear hk i0 i1 i2 i3 i4 i5 hbx hx hxn hl hlt hn hV HW2 hb hfx hpl hme hm j2 hBx hnn hfew hsz
      gi_wp2
      exact ⟨HKF.out.1, HKF.out.2, HJ2.out⟩
  case done =>
    rintro D ys W hD hys ⟨h0, h1, h2, h3, h4, h5⟩ hK
    have hlen : ys.length = t.size := by
      have := congrArg List.length hys
      rwa [List.length_map, preT_length] at this
    have HZ : Hid ((preT 0 t)[n]? = none) := by
      show _ = _
      rw [List.getElem?_eq_none_iff, preT_length]; omega
    have z0 := row_cellT h1 0 _ rfl
    have z1 := row_cellT h1 1 _ rfl
    have z2 := row_cellT h1 2 _ rfl
    have z3 := row_cellT h1 3 _ rfl
    have z4 := row_cellT h1 4 _ rfl
    have z5 := row_cellT h1 5 _ rfl
    have f0 := row_frozen h1 0
    have f1 := row_frozen h1 1
    have f2 := row_frozen h1 2
    have f3 := row_frozen h1 3
    have f4 := row_frozen h1 4
    have f5 := row_frozen h1 5
    have c1 := row_cellT h2 0 _ rfl
    have y1 := row_frozen h2 0
    have hdl := hF.out.2.1
    have hm1 : Moved (fun g => g = w.heap.size + 2) W (store6 W (w.heap.size + 2) (.int .i64 0) (.int .i64 0) (.int .u64 0) (.string ⟨#[]⟩) (.slice none 0 0) (.slice none 0 0)) := moved_store6 W _ _ _ _ _ _ _
    have hb1 : (store6 W (w.heap.size + 2) (.int .i64 0) (.int .i64 0) (.int .u64 0) (.string ⟨#[]⟩) (.slice none 0 0) (.slice none 0 0)).heap[w.heap.size + 2]? = some (.cells #[.int .i64 0, .int .i64 0, .int .u64 0, .string ⟨#[]⟩, .slice none 0 0, .slice none 0 0] 26 (0, 0)) := heap_store6 h1 _ _ _ _ _ _
    obtain ⟨W4, hW4⟩ : ∃ W4, store6 W (w.heap.size + 2) (.int .i64 0) (.int .i64 0) (.int .u64 0) (.string ⟨#[]⟩) (.slice none 0 0) (.slice none 0 0) = W4 := ⟨_, rfl⟩
    rw [hW4] at hm1 hb1
    obtain ⟨W5, hW5⟩ : ∃ W5, W4.setCell ⟨w.heap.size + 3, 0, none⟩ (.bool false) = W5 := ⟨_, rfl⟩
    have hm2 : Moved (fun g => g = w.heap.size + 3) W4 W5 := by rw [← hW5]; exact Moved.setCell (S := fun g => g = w.heap.size + 3) (p := ⟨w.heap.size + 3, 0, none⟩) (Moved.refl _ _) (fun _ => rfl) _
    have hb3 : W5.heap[w.heap.size + 3]? = some (.cells #[.bool false] 4 (0, 0)) := by
      rw [← hW5]
      have := heap_setCell_same W4 (w.heap.size + 3) 0 _ _ (.bool false) (hm1.heap h2 (by omega))
      simpa using this
    have hb1' := hm2.heap hb1 (by omega)
    have hK' := hm2.heap (hm1.heap hK (by omega)) (by omega)
    have hg' : Grew w W5 := Moved.fresh (Moved.fresh h5 hm1 (fun g h => by omega)) hm2 (fun g h => by omega)
    have HB := Lib.hid (And.intro hb1' (And.intro hb3 hg'))
    have HKK := Lib.hid hK'
    have HDL : Hid (w.heap.size + 6 ≤ D) := by show _ ≤ _; omega
    rw [← hW4] at hW5
    have HW5 := Lib.hid hW5
    clear h0 h1 h2 h3 h4 h5 hys hK hK' hb1 hb1' hb3 hg' hD hdl hn hV HW2 hlen hm1 hm2 hW5 hW4 hnn hfew hsz
    gi_wp2
    have hWW := HW5.out
    simp only [store6] at hWW
    rw [hWW]
    refine ⟨by simp, .inl ⟨_, _, rfl, run_takeDeferred HKK.out, ?_⟩⟩
    have hput : Grew w (W5.putObj D (.deferred none)) := grew_turn HB.out.2.2 (grownBy_putObj' W5 D _) (fun r e => by cases e; exact Nat.le_refl _) (by have := HDL.out; omega)
    have hk1 := (World.putObj_heap_other (o := .deferred none) (by have := HDL.out; omega : w.heap.size + 2 ≠ D)).trans HB.out.1
    have hk2 := (World.putObj_heap_other (o := .deferred none) (by have := HDL.out; omega : w.heap.size + 3 ≠ D)).trans HB.out.2.1
    have x0 := row_cellT (hk1 : (W5.putObj D (.deferred none)).heap[w.heap.size + 2]? = _) 0 _ rfl
    have x1 := row_cellT (hk1 : (W5.putObj D (.deferred none)).heap[w.heap.size + 2]? = _) 1 _ rfl
    have x2 := row_cellT (hk1 : (W5.putObj D (.deferred none)).heap[w.heap.size + 2]? = _) 2 _ rfl
    have x3 := row_cellT (hk1 : (W5.putObj D (.deferred none)).heap[w.heap.size + 2]? = _) 3 _ rfl
    have x4 := row_cellT (hk1 : (W5.putObj D (.deferred none)).heap[w.heap.size + 2]? = _) 4 _ rfl
    have x5 := row_cellT (hk1 : (W5.putObj D (.deferred none)).heap[w.heap.size + 2]? = _) 5 _ rfl
    have x6 := row_cellT (hk2 : (W5.putObj D (.deferred none)).heap[w.heap.size + 3]? = _) 0 _ rfl
    refine ⟨.tuple #[.agg #[.int .i64 0, .int .i64 0, .int .u64 0, .string ⟨#[]⟩, .slice none 0 0, .slice none 0 0], .bool false], by simp [results, Try.results25, go_sem, x0, x1, x2, x3, x4, x5, x6], hput, .inr ⟨HZ.out, rfl⟩⟩
  case stop =>
    rintro D c pre W' hD ⟨zs, hpre⟩ ⟨rfl, b, x, c0, c1, c2, c3, c4, c5, h1, h2, h3, h4, h5⟩ hK
    have HZ : Hid ((preT 0 t)[n]? = some (b, x)) := by
      show _ = _
      rw [← hpre, List.getElem?_append_left (List.getElem?_eq_some_iff.1 h1).1]; exact h1
    have hdl := hF.out.2.1
    have HB := Lib.hid (And.intro h2 (And.intro h3 (And.intro h4 h5)))
    have HKK := Lib.hid hK
    have HDL : Hid (w.heap.size + 6 ≤ D) := by show _ ≤ _; omega
    obtain ⟨zk, zn, zu, zs', za4, zn4, zc4, za5, zn5, zc5, ez⟩ := h4.node6
    injection ez with ez
    simp only [Array.mk.injEq, List.cons.injEq, and_true] at ez
    obtain ⟨rfl, rfl, rfl, rfl, rfl, rfl⟩ := ez
    clear h1 h2 h3 h4 h5 hpre hK hD hdl hn hV HW2 hnn hfew hsz
    gi_wp2
    refine ⟨by simp, .inl ⟨_, _, rfl, run_takeDeferred HKK.out, ?_⟩⟩
    have hput : Grew w (W'.putObj D (.deferred none)) := grew_turn HB.out.2.2.2 (grownBy_putObj' W' D _) (fun r e => by cases e; exact Nat.le_refl _) (by have := HDL.out; omega)
    have hk1 := (World.putObj_heap_other (o := .deferred none) (by have := HDL.out; omega : w.heap.size + 2 ≠ D)).trans HB.out.1
    have hk2 := (World.putObj_heap_other (o := .deferred none) (by have := HDL.out; omega : w.heap.size + 3 ≠ D)).trans HB.out.2.1
    have x0 := row_cellT (hk1 : (W'.putObj D (.deferred none)).heap[w.heap.size + 2]? = _) 0 _ rfl
    have x1 := row_cellT (hk1 : (W'.putObj D (.deferred none)).heap[w.heap.size + 2]? = _) 1 _ rfl
    have x2 := row_cellT (hk1 : (W'.putObj D (.deferred none)).heap[w.heap.size + 2]? = _) 2 _ rfl
    have x3 := row_cellT (hk1 : (W'.putObj D (.deferred none)).heap[w.heap.size + 2]? = _) 3 _ rfl
    have x4 := row_cellT (hk1 : (W'.putObj D (.deferred none)).heap[w.heap.size + 2]? = _) 4 _ rfl
    have x5 := row_cellT (hk1 : (W'.putObj D (.deferred none)).heap[w.heap.size + 2]? = _) 5 _ rfl
    have x6 := row_cellT (hk2 : (W'.putObj D (.deferred none)).heap[w.heap.size + 3]? = _) 0 _ rfl
    have hck : CellsK W' (W'.putObj D (.deferred none)) := by
      intro k o hk ho
      by_cases e : k = D
      · subst e; rw [HKK.out] at hk; cases hk; cases ho
      · exact (World.putObj_heap_other e).trans hk
    refine ⟨.tuple #[.agg #[.int .i64 zk, .int .i64 zn, .int .u64 zu, .string zs', .slice za4 zn4 zc4, .slice za5 zn5 zc5], .bool true], by simp [results, Try.results25, go_sem, x0, x1, x2, x3, x4, x5, x6], hput, .inl ⟨b, x, _, HZ.out, rfl, HB.out.2.2.1.cells hck⟩⟩
end Go.Proofs.Ytfbeepkogcmlmaa

/-
  Normal forms: few. Conditions: the argument can be read.
-/
namespace Go.Proofs.Ytfbeepkogcmlmaa
open Go Go.ChangeShapes Go.WideShapes Go.ChangeAt Go.RowKit Go.Joins Go.Deep
set_option linter.unusedVariables false
set_option linter.unusedSimpArgs false

/-- The law's argument, cut. -/
def cutT (t : Tr) : Tr := (cutTr 60 (120 - 1) t).1
theorem cutT_size (t : Tr) : (cutT t).size ≤ 120 := by unfold cutT; have := cutTr_size 60 t (120 - 1); omega
set_option maxRecDepth 100000 in
theorem few09_any (t : Tr) (v : Value) (w : World) (hn : NodeAt w t v) : Calls Try.prog 9 #[v] w fun r w' => ∃ v', r = .returned v' ∧ NodeAt w' (cutT t) v' ∧ Grew w w' := by
  have HN := Lib.hid hn
  obtain ⟨k, n, u, s, a4, n4, c4, a5, n5, c5, rfl⟩ := hn.node6
  clear hn
  go_enter Try.func9, Try.ntmps9
  go_wp2_with fail
  have hg1 := (Grew.refl w).alloc (.cells #[.int .i64 k, .int .i64 n, .int .u64 u, .string s, .slice a4 n4 c4, .slice a5 n5 c5] 26)
  have hs1 : (w.alloc (.cells #[.int .i64 k, .int .i64 n, .int .u64 u, .string s, .slice a4 n4 c4, .slice a5 n5 c5] 26)).heap.size = w.heap.size + 1 := World.size_alloc _ _
  generalize (w.alloc (.cells #[.int .i64 k, .int .i64 n, .int .u64 u, .string s, .slice a4 n4 c4, .slice a5 n5 c5] 26)) = w1 at *
  have hb2 := heap_alloc_new w1 (.cells #[.int .i64 0, .int .i64 0, .int .u64 0, .string ⟨#[]⟩, .slice none 0 0, .slice none 0 0] 26)
  have hg2 := (Grew.refl w1).alloc (.cells #[.int .i64 0, .int .i64 0, .int .u64 0, .string ⟨#[]⟩, .slice none 0 0, .slice none 0 0] 26)
  generalize (w1.alloc (.cells #[.int .i64 0, .int .i64 0, .int .u64 0, .string ⟨#[]⟩, .slice none 0 0, .slice none 0 0] 26)) = w2 at *
  rw [hs1] at hb2
  have HG := Lib.hid (hg1.trans hg2)
  refine (cut_node_any 120 60 (by omega) (by omega) (by omega) t _ w2 (HN.out.grew HG.out)).mono ?_
  rintro r w3 ⟨v1, rfl, ho1, hg3⟩
  have hb3 := hg3.heap hb2
  have HO := Lib.hid ho1
  obtain ⟨rk, rn, ru, rs, ra4, rn4, rc4, ra5, rn5, rc5, rfl⟩ := ho1.node6
  have HFIN : Hid (NodeAt (store6 w3 (w.heap.size + 1) (.int .i64 rk) (.int .i64 rn) (.int .u64 ru) (.string rs) (.slice ra4 rn4 rc4) (.slice ra5 rn5 rc5)) (cutT t) (.agg #[.int .i64 rk, .int .i64 rn, .int .u64 ru, .string rs, .slice ra4 rn4 rc4, .slice ra5 rn5 rc5]) ∧ Grew w (store6 w3 (w.heap.size + 1) (.int .i64 rk) (.int .i64 rn) (.int .u64 ru) (.string rs) (.slice ra4 rn4 rc4) (.slice ra5 rn5 rc5))) := by
    have hT : Moved (fun k => k = w.heap.size + 1) w3 (store6 w3 (w.heap.size + 1) (.int .i64 rk) (.int .i64 rn) (.int .u64 ru) (.string rs) (.slice ra4 rn4 rc4) (.slice ra5 rn5 rc5)) := moved_store6 w3 (w.heap.size + 1) _ _ _ _ _ _
    have h2 := (Array.getElem?_eq_some_iff.1 hb2).1
    have h3 := hg3.size
    generalize (store6 w3 (w.heap.size + 1) (.int .i64 rk) (.int .i64 rn) (.int .u64 ru) (.string rs) (.slice ra4 rn4 rc4) (.slice ra5 rn5 rc5)) = W at *
    refine ⟨(HO.out.kept hT (fun g hg e => ?_)).node, Moved.fresh (HG.out.trans hg3) hT (fun g e => by omega)⟩
    have := hg.1; omega
  have z0 := row_cellT hb3 0 _ rfl
  have z1 := row_cellT hb3 1 _ rfl
  have z2 := row_cellT hb3 2 _ rfl
  have z3 := row_cellT hb3 3 _ rfl
  have z4 := row_cellT hb3 4 _ rfl
  have z5 := row_cellT hb3 5 _ rfl
  have f0 := row_frozen hb3 0
  have f1 := row_frozen hb3 1
  have f2 := row_frozen hb3 2
  have f3 := row_frozen hb3 3
  have f4 := row_frozen hb3 4
  have f5 := row_frozen hb3 5
  clear hg1 hs1 hb2 hg2 ho1 hg3 hb3
  go_wp2_with fail
  refine bodyPost_ret (v := .agg #[.int .i64 rk, .int .i64 rn, .int .u64 ru, .string rs, .slice ra4 rn4 rc4, .slice ra5 rn5 rc5]) (by simp [results, Try.results9, go_sem, z0, z1, z2, z3, z4, z5]) rfl ?_
  exact ⟨_, rfl, HFIN.out⟩
end Go.Proofs.Ytfbeepkogcmlmaa

/-
  Plain lemma, no program: a region that leaves its order open, but for a tail whose operations stand in the text's order and wait for all: facts for the head, the walk for the tail.
-/
namespace Go.Proofs.Ytfbeepkogcmlmaa
set_option linter.unusedSimpArgs false
set_option linter.unusedVariables false
open Go Go.RowKit
section
variable {P : Program} {ops : Array Oper}
def headA (ops : Array Oper) (n : Nat) : Array Bool := ((List.range ops.size).map fun j => decide (j < n)).toArray
theorem headA_eq {n : Nat} {listed : Array Bool} (hsz : listed.size = ops.size) (hn : n ≤ ops.size) (h1 : ∀ j, j < n → listed.getD j false = true) (h2 : ∀ j, n ≤ j → j < ops.size → listed.getD j true = false) : listed = headA ops n := by
  apply Array.ext
  · simp [headA, hsz]
  · intro j ha hb
    have hj : j < ops.size := by omega
    simp only [headA, List.getElem_toArray, List.getElem_map, List.getElem_range]
    rcases Nat.lt_or_ge j n with h | h
    · have := h1 j h
      simp [ha] at this
      simp [this, h]
    · have := h2 j h hj
      simp [ha] at this
      simp [this]; omega
theorem wpAny_seq_more {Q' : Exit → Act → World → Prop} : ∀ (l : List Oper) (m k : Nat) (listed : Array Bool) (a : Act) (w : World), (∀ j, l[j]? = ops[k + j]?) →
    Region.seqB .any ops l.length k listed = true → wpList P ops Q' l a w → wpAny P .any ops Q' (l.length + m) listed a w
  | [], m, k, listed, a, w, _, hB, h => by
    have h0 : Region.ready .any ops listed = [] := by simpa [Region.seqB] using hB
    cases m with
    | zero => exact ⟨h0, h⟩
    | succ m => simp only [List.length_nil, Nat.zero_add]; exact ⟨fun _ => h, fun i hi => by rw [h0] at hi; cases hi⟩
  | o :: l, m, k, listed, a, w, hl, hB, h => by
    have h0 : ops[k]? = some o := by simpa using (hl 0).symm
    simp only [List.length_cons, Region.seqB, Bool.and_eq_true, decide_eq_true_eq] at hB
    rw [show (o :: l).length + m = (l.length + m) + 1 by simp only [List.length_cons]; omega]
    refine ⟨fun h1 => (by rw [hB.1] at h1; cases h1), fun i hi => ?_⟩
    rw [hB.1] at hi
    have hik : i = k := by simpa using hi
    subst hik
    have hw : wpOp P ops Q' i (wpList P ops Q' l) a w := by unfold wpOp; simp only [h0]; exact h
    exact wpOp_mono (fun a' w' h' => wpAny_seq_more l m (i + 1) _ a' w' (fun j => by have := hl (j + 1); simpa [Nat.add_assoc, Nat.add_comm 1 j] using this) hB.2 h') hw
theorem allW_take {R : World → World → Prop} {Φ : List (Value → World → Prop)} {a0 : Act} {w0 : World} (D0 : List (List Nat)) (C0 : List (List (Nat × Nat))) (hC : ∀ i, i < ops.size → C0.getD i [] = canonL ops D0.toArray i) :
    ∀ (l : List Oper) (i : Nat) (D : List (List Nat)) (C : List (List (Nat × Nat))), i + l.length ≤ ops.size → (∀ k, D[k]? = D0[i + k]?) → (∀ k, C[k]? = C0[i + k]?) → allW P ops R Φ a0 w0 i l D C →
      allWords (opWord P ops R D0.toArray (fun j => Φ.getD j (fun _ _ => True)) a0 w0) i l := by
    intro l
    induction l with
    | nil => intros; trivial
    | cons o r ih =>
      intro i D C hl hD hC' h
      match D, C, h with
      | d :: ds, c :: cs, h =>
        obtain ⟨h1, h2⟩ := h
        refine ⟨?_, ih (i + 1) ds cs (by simp at hl; omega) (fun k => ?_) (fun k => ?_) h2⟩
        · have hd : D0.toArray.getD i [] = d := by
            have := hD 0
            simp at this
            simp [Array.getD_eq_getD_getElem?, ← this]
          have hc : canonL ops D0.toArray i = c := by
            rw [← hC i (by simp at hl; omega)]
            have := hC' 0
            simp at this
            simp [List.getD_eq_getElem?_getD, ← this]
          intro y w hR hj K hK
          rw [hd] at hj
          rw [hc] at hK ⊢
          exact h1 y w hR (depsH_of _ hj) K (fun a' v w' he hr hφ => by subst he; exact hK v w' hr hφ)
        · have := hD (k + 1)
          simp at this
          rw [this]; congr 1; omega
        · have := hC' (k + 1)
          simp at this
          rw [this]; congr 1; omega

theorem wpAny_of_factsN {R : World → World → Prop} {D : Array (List Nat)} {Φ : Nat → Value → World → Prop} {a0 : Act} {w0 : World} {Q : Exit → Act → World → Prop}
    (hRt : ∀ {a b c : World}, R a b → R b c → R a c) (hchk : factsOK ops D = true) (hst : ∀ j v w w', R w w' → Φ j v w → Φ j v w') (hrr : ∀ w, R w w)
    {n : Nat} (hop : ∀ i o, i < n → ops[i]? = some o → opWord P ops R D Φ a0 w0 i o) (hn : n < ops.size) (hs : Region.sinkB .any ops n = true) (hc : Region.chainB .any ops n = true)
    (hq : Region.seqB .any ops (ops.size - n) n (headA ops n) = true)
    (hfin : ∀ y w, R w0 w → (∀ j, j < n → Φ j (y j) w) → wpList P ops Q (ops.toList.drop n) (fillL y ((pairsOf ops).filter fun q => decide (q.2 < n)) a0) w) :
    ∀ (f : Nat) (listed : Array Bool) (a : Act) (w : World) (y : Nat → Value), ((List.range n).filter fun j => !listed.getD j true).length ≤ f →
      InvF ops R D Φ a0 w0 listed a w y → HeadInv .any ops n listed → wpAny P .any ops Q (f + (ops.size - n)) listed a w := by
  simp only [factsOK, Bool.and_eq_true, List.all_eq_true, List.mem_range] at hchk
  obtain ⟨hkeys, hrows⟩ := hchk
  -- nothing ready: all has been listed
  have hall : ∀ (listed : Array Bool), listed.size = ops.size → Region.ready .any ops listed = [] → ∀ j, j < ops.size → listed.getD j false = true := by
    intro listed hs hnil j
    induction j using Nat.strongRecOn with
    | ind j ih =>
      intro hj
      cases hl : listed.getD j false with
      | true => rfl
      | false =>
        exfalso
        have hmem : j ∈ Region.ready .any ops listed := by
          rw [mem_ready]
          refine ⟨by rw [listed_cases (by omega)]; exact hl, ops[j], Array.getElem?_eq_getElem hj, fun e he hb => ?_⟩
          have hrow := hrows j hj
          rw [Array.getElem?_eq_getElem hj] at hrow
          simp only [Bool.and_eq_true, List.all_eq_true, decide_eq_true_eq] at hrow
          have hlt := hrow.1 e.on (List.mem_map.2 ⟨e, List.mem_filter.2 ⟨by simpa using he, hb⟩, rfl⟩)
          exact ih e.on hlt (by omega)
        rw [hnil] at hmem
        cases hmem
  -- the head has been listed
  have hdone : ∀ (m : Nat) (listed : Array Bool) (a : Act) (w : World) (y : Nat → Value), InvF ops R D Φ a0 w0 listed a w y → HeadInv .any ops n listed → (∀ j, j < n → listed.getD j false = true) → wpAny P .any ops Q (m + (ops.size - n)) listed a w := by
    intro m listed a w y hI hH hl
    have he : listed = headA ops n := headA_eq hI.size (by omega) hl hH.tail
    have hlen : (ops.toList.drop n).length = ops.size - n := by simp
    have hw := hfin y w hI.grown (fun j hj => hI.facts j (hl j hj))
    rw [fillL_filter y _ _ a0 hkeys, ← hI.act] at hw
    · rw [Nat.add_comm, ← hlen]
      refine wpAny_seq_more (ops.toList.drop n) m n listed a w (fun j => by simp) ?_ hw
      rw [hlen, he]; exact hq
    · rintro ⟨d, j⟩ hq' hp
      simp only [decide_eq_false_iff_not] at hp
      have hdst := mem_pairsOf.1 hq'
      have hj : j < ops.size := by
        rcases Nat.lt_or_ge j ops.size with h' | h'
        · exact h'
        · rw [Array.getElem?_eq_none h'] at hdst; cases hdst
      exact hI.open_ j d (hH.tail j (by omega) hj) hdst
  intro f
  induction f with
  | zero =>
    intro listed a w y hlen hI hH
    refine hdone 0 listed a w y hI hH fun j hj => ?_
    cases hl : listed.getD j false with
    | true => rfl
    | false =>
      exfalso
      have h0 : ((List.range n).filter fun j => !listed.getD j true) = [] := List.length_eq_zero_iff.1 (by omega)
      have : j ∈ ((List.range n).filter fun j => !listed.getD j true) := List.mem_filter.2 ⟨List.mem_range.2 hj, by rw [listed_cases (by rw [hI.size]; omega), hl]; rfl⟩
      rw [h0] at this; cases this
  | succ fuel ih =>
    intro listed a w y hlen hI hH
    by_cases hh : ∀ j, j < n → listed.getD j false = true
    · exact hdone (fuel + 1) listed a w y hI hH hh
    obtain ⟨j0, hj0, hl0⟩ : ∃ j, j < n ∧ listed.getD j true = false := by
      apply Classical.byContradiction
      intro hno
      refine hh fun j hj => ?_
      cases hl : listed.getD j false with
      | true => rfl
      | false => exact absurd ⟨j, hj, by rw [listed_cases (by rw [hI.size]; omega)]; exact hl⟩ hno
    rw [show fuel + 1 + (ops.size - n) = (fuel + (ops.size - n)) + 1 by omega]
    refine ⟨fun hnil => ?_, fun i hi => ?_⟩
    · have := hall listed hI.size hnil j0 (by omega)
      rw [← listed_cases (by rw [hI.size]; omega), hl0] at this; cases this
    have hin : i < n := by
      rcases Nat.lt_or_ge i n with h | h
      · exact h
      · exact absurd hi (tail_waits hs hc hn hH _ j0 rfl hj0 hl0 i h)
    obtain ⟨hun, o, ho, hedges⟩ := mem_ready.1 hi
    have hilt : i < ops.size := (Array.getElem?_eq_some_iff.1 ho).1
    have hunf : listed.getD i false = false := by rw [← listed_cases (by rw [hI.size]; exact hilt)]; exact hun
    have hrow := hrows i hilt
    rw [ho] at hrow
    simp only [Bool.and_eq_true, List.all_eq_true, decide_eq_true_eq, List.any_eq_true, Bool.or_eq_true, beq_iff_eq, List.contains_iff_mem] at hrow
    -- what i waits for has been listed
    have hD : ∀ k ∈ D.getD i [], listed.getD k false = true := by
      intro k hk
      obtain ⟨e, he, hek⟩ := hrow.2 k hk
      obtain ⟨ed, hed, rfl⟩ := List.mem_map.1 he
      obtain ⟨hed1, hed2⟩ := List.mem_filter.1 hed
      have hl := hedges ed (by simpa using hed1) hed2
      rcases hek with rfl | hek
      · exact hl
      · exact hI.closed _ hl k hek
    have hcan : fillL y (canonL ops D i) a0 = a := by
      rw [hI.act]
      refine fillL_filter y _ _ a0 hkeys ?_
      rintro ⟨d, j⟩ hq hp
      simp only [Bool.not_eq_false', Bool.or_eq_true, beq_iff_eq] at hp
      have hdst := mem_pairsOf.1 hq
      refine hI.open_ j d ?_ hdst
      rcases hp with rfl | hw
      · exact hun
      · have hjlt : j < listed.size := by
          rw [hI.size]
          rcases Nat.lt_or_ge j ops.size with h' | h'
          · exact h'
          · rw [Array.getElem?_eq_none h'] at hdst; cases hdst
        rw [listed_cases hjlt]
        cases hl : listed.getD j false with
        | false => rfl
        | true =>
          have := hI.closed j hl i (by simpa [waits] using hw)
          rw [hunf] at this
          cases this
    have hw := hop i o hin ho y w hI.grown (fun j hj => hI.facts j (hD j hj)) (fun a' w' => ∃ v, a' = a.put o.dst v ∧ R w w' ∧ Φ i v w')
    rw [hcan] at hw
    have hlen' : ((List.range n).filter fun j => !(listed.setIfInBounds i true).getD j true).length ≤ fuel := by
      have : ((List.range n).filter fun j => !(listed.setIfInBounds i true).getD j true).length < ((List.range n).filter fun j => !listed.getD j true).length := by
        refine filter_lt _ i (fun j hj => ?_) (List.mem_range.2 hin) (by rw [hun]; rfl) ?_
        · by_cases hij : i = j
          · subst hij
            have h2 : i < listed.size := by rw [hI.size]; exact hilt
            simp [h2] at hj
          · rw [getD_set_ne true hij] at hj; exact hj
        · have h2 : i < listed.size := by rw [hI.size]; exact hilt
          simp [h2]
      omega
    have hnext : ∀ v w', R w w' → Φ i v w' → wpAny P .any ops Q (fuel + (ops.size - n)) (listed.setIfInBounds i true) (a.put o.dst v) w' := by
      intro v w' hr hφ
      have h2 : i < listed.size := by rw [hI.size]; exact hilt
      refine ih _ _ _ (fun k => if k = i then v else y k) hlen' ⟨by simp [hI.size], ?_, hRt hI.grown hr, ?_, ?_, ?_⟩ (hH.set hi hin)
      · cases hd : o.dst with
        | none =>
          rw [hI.act]
          show fillL y (pairsOf ops) a0 = _
          refine fillL_congr _ _ _ _ fun p hp => ?_
          have := mem_pairsOf.1 (show (p.1, p.2) ∈ pairsOf ops from hp)
          have hne : p.2 ≠ i := fun he => by rw [he, ho] at this; simp [hd] at this
          simp [hne]
        | some d =>
          rw [hI.act, fillL_set y i v _ a0 d hkeys (mem_pairsOf.2 (by simp [ho, hd]))]
      · intro j hj
        by_cases hji : j = i
        · subst hji; simpa using hφ
        · simp only [hji, if_false]
          rw [getD_set_ne false (Ne.symm hji)] at hj
          exact hst j _ _ _ hr (hI.facts j hj)
      · intro j d hj hdst
        have hji : j ≠ i := fun he => by subst he; simp [h2] at hj
        simp only [hji, if_false]
        rw [getD_set_ne true (Ne.symm hji)] at hj
        exact hI.open_ j d hj hdst
      · intro j hj k hk
        by_cases hji : j = i
        · subst hji; exact getD_set_true (hD k hk)
        · rw [getD_set_ne false (Ne.symm hji)] at hj
          exact getD_set_true (hI.closed j hj k hk)
    unfold wpOp
    simp only [ho]
    have hw2 := hw (fun v w' hr hφ => ⟨v, rfl, hr, hφ⟩)
    split at hw2
    · rename_i hwa
      rw [if_pos hwa]
      refine .inl ?_
      have h3 : o.wp P a w (wpAny P .any ops Q (fuel + (ops.size - n)) (listed.setIfInBounds i true)) (fun _ _ _ => False) :=
        Oper.wp_mono (fun a' w' ⟨v, he, hr, hφ⟩ => by subst he; exact hnext v w' hr hφ) hw2
      exact wp_exit h3
    · rename_i hwa
      rw [if_neg hwa]
      obtain ⟨v, he, hr, hφ⟩ := hw2
      rw [he]
      exact hnext v w hr hφ
where
  wp_exit {o : Oper} {a : Act} {w : World} {K : Act → World → Prop} {Q : Exit → Act → World → Prop} (h : o.wp P a w K (fun _ _ _ => False)) : o.wp P a w K Q := by
    unfold Oper.wp at *
    generalize (execOp a.eval o).run P w = r at *
    cases r with
    | ok n w' =>
      cases n <;> simp only [Oper.upon] at h ⊢
      case enter f args =>
        refine Calls.mono h fun e w'' he => ?_
        cases e with
        | returned v => exact he
        | panicked c => exact he.elim
        | outgrown => obtain ⟨_, _, hq⟩ := he; exact hq.elim
      all_goals exact h
    | halt x w' => cases x <;> simp only [Oper.upon] at h

/-- **A region that draws its order, a tail of it in order; the tables written out (n: the operations ahead of the tail; F: their pairs).** -/
theorem wp_region_tablesN {id : Nat} {a0 : Act} {w0 : World} {Q : Exit → Act → World → Prop} (R : World → World → Prop) (n : Nat) (D : List (List Nat)) (C : List (List (Nat × Nat))) (F : List (Nat × Nat)) (Φ : List (Value → World → Prop)) (hm : P.follows .mixedOrders = true)
    (hRt : ∀ {a b c : World}, R a b → R b c → R a c) (hrr : ∀ w, R w w) (hd : R w0 w0.drew)
    (hchk : (tablesOK ops D C (pairsOf ops) && decide (F = (pairsOf ops).filter fun q => decide (q.2 < n)) && decide (n < ops.size) && Region.sinkB .any ops n && Region.chainB .any ops n && Region.seqB .any ops (ops.size - n) n (headA ops n)) = true) (hst : stL R Φ)
    (hlen : Φ.length = n)
    (hop : allW P ops R Φ a0 w0 0 (ops.toList.take n) D C)
    (hfin : ∀ y w, R w0 w → factsH y w 0 Φ → wpList P ops Q (ops.toList.drop n) (fillL y F a0) w) : (Code.region id ops true).wp P Q a0 w0 := by
  simp only [Bool.and_eq_true, decide_eq_true_eq] at hchk
  obtain ⟨⟨⟨⟨⟨hchk, hF⟩, hn⟩, hs⟩, hc⟩, hq⟩ := hchk
  simp only [tablesOK, Bool.and_eq_true, decide_eq_true_eq, List.all_eq_true, List.mem_range] at hchk
  obtain ⟨⟨h1, h2⟩, h3⟩ := hchk
  subst hF
  refine wp_region_any hm ?_
  have hfuel : ops.size = n + (ops.size - n) := by omega
  rw [show wpAny P .any ops Q ops.size = wpAny P .any ops Q (n + (ops.size - n)) by rw [← hfuel]]
  refine wpAny_of_factsN (R := R) (D := D.toArray) (Φ := fun j => Φ.getD j (fun _ _ => True)) (a0 := a0) (w0 := w0) hRt h1 ?_ hrr (n := n) (fun i o hi ho => ?_) hn hs hc hq (fun y w hr hf => hfin y w hr (factsH_of Φ 0 (by simp) (fun j h => hf j (by omega)))) n _ a0 _ (fun j => match (ops[j]?).bind (·.dst) with | some d => a0.tmps.getD d undef | none => undef) ?_ ⟨by simp, ?_, hd, ?_, ?_, ?_⟩ ⟨by simp, fun j oj _ hl => (by rw [getD_replicate_false] at hl; cases hl), fun t _ ht => getD_in (by simpa using ht) (getD_replicate_false _ _)⟩
  · intro j v w w' hr hφ
    rcases Nat.lt_or_ge j Φ.length with hj | hj
    · have e : Φ.getD j (fun _ _ => True) = Φ[j] := by simp [List.getD_eq_getElem?_getD, hj]
      simp only [e] at hφ ⊢
      exact stL_mem Φ hst _ (List.getElem_mem hj) v w w' hr hφ
    · have e : Φ.getD j (fun _ _ => True) = fun _ _ => True := by simp [List.getD_eq_getElem?_getD, hj]
      simp only [e]
  · have hd2 := allW_take D C h3 (ops.toList.take n) 0 D C (by simp; omega) (by simp) (by simp) hop
    have := allWords_get _ 0 i o hd2 (by rw [List.getElem?_take]; simp [hi]; simpa using ho)
    simpa using this
  · exact Nat.le_trans (List.length_filter_le _ _) (by simp)
  · symm
    have : ∀ (L : List (Nat × Nat)), (∀ p ∈ L, (ops[p.2]?).bind (·.dst) = some p.1) → fillL (fun j => match (ops[j]?).bind (·.dst) with | some d => a0.tmps.getD d undef | none => undef) L a0 = a0 := by
      intro L
      induction L with
      | nil => intro _; rfl
      | cons p L ih =>
        intro h
        obtain ⟨d, j⟩ := p
        have hd := h (d, j) (by simp)
        simp only at hd
        show fillL _ L (a0.put (some d) _) = a0
        simp only [hd]
        rw [put_self]
        exact ih (fun p hp => h p (by simp [hp]))
    exact this _ (fun p hp => mem_pairsOf.1 hp)
  · intro j hj
    rw [getD_replicate_false] at hj; cases hj
  · intro j d _ hdst
    simp only [hdst]
    exact put_self a0 d
  · intro j hj
    rw [getD_replicate_false] at hj; cases hj
end
end Go.Proofs.Ytfbeepkogcmlmaa
