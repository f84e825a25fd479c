/-
  Texts of the proof, part 6 of 9.
-/
import Derived.Test.YtlhliolknaopjaaPC
import Derived.Test.YtlhliolknaopjaaPE
import Derived.Test.YtlhliolknaopjaaPD
import Derived.Lib.SlBytesConst
import Derived.Deep.CutBlock
import Derived.Deep.DeepCutAuto
import Derived.Deep.QuietTactic
import Derived.BigQuiet
import Derived.Test.YtlhliolknaopjaaPB

/-
  Denote: the examples of the chapter hold. Conditions: none.
-/
namespace Go.Proofs.Ytlhliolknaopjaa
open Go Go.ChangeShapes Go.WideShapes Go.ChangeAt Go.RowKit Go.Joins Go.Deep
set_option linter.unusedVariables false
set_option linter.unusedSimpArgs false

theorem leaf_nd (k n u : Int) (s : ByteArray) (h : i64ok k ∧ i64ok n ∧ u64ok u ∧ lenok s.size) (w : World) : Nd (.mk k n u s [] []) (.agg #[.int .i64 k, .int .i64 n, .int .u64 u, .string s, .slice none 0 0, .slice none 0 0]) w :=
  ⟨h, _, _, [], rfl, StrsAt.nil w, RowsAt.nil w, by simp [KidsAt]⟩
theorem vecK_nd (k : Int) (hk : i64ok k) {l : List Tr} {lv : Value} {w : World} (h2 : Rn l lv w) : Nd (.mk k 0 0 ⟨#[]⟩ [] l) (.agg #[.int .i64 k, .int .i64 0, .int .u64 0, .string ⟨#[]⟩, .slice none 0 0, lv]) w := by
  obtain ⟨vs, h3, h4⟩ := h2
  exact ⟨⟨hk, by unfold i64ok; omega, by unfold u64ok; omega, by unfold lenok; decide⟩, _, lv, vs, rfl, StrsAt.nil w, h3, h4⟩
/-- A new row of nodes, of strings. -/
def RnX (k : Nat) (ts : List Tr) (v : Value) (w : World) : Prop := (∃ g, v = .slice (some ⟨g, 0, none⟩) k k) ∧ Rn ts v w
theorem RnX.st (k : Nat) (ts : List Tr) : ∀ v w w', Grew w w' → RnX k ts v w → RnX k ts v w' := fun v w w' hg h => ⟨h.1, Rn.st _ v w w' hg h.2⟩
def SsX (k : Nat) (l : List ByteArray) (v : Value) (w : World) : Prop := (∃ g, v = .slice (some ⟨g, 0, none⟩) k k) ∧ Ss l v w
theorem SsX.st (k : Nat) (l : List ByteArray) : ∀ v w w', Grew w w' → SsX k l v w → SsX k l v w' := fun v w w' hg h => ⟨h.1, Ss.st _ v w w' hg h.2⟩
/-- Bytes that are read. -/
def Dc (d : List UInt8) (v : Value) (w : World) : Prop := DocAt w v d
theorem Dc.st (d : List UInt8) : ∀ v w w', Grew w w' → Dc d v w → Dc d v w' := fun _ _ _ hg h => DocAt.grew h hg
theorem DocAt.nil (w : World) : DocAt w (.slice none 0 0) [] := ⟨BytesAt.nil w, by decide, fun _ _ _ e => by cases e⟩
theorem okS_mk {k n u : Int} {s : ByteArray} {keys : List ByteArray} {l : List Tr} (h : s.size ≤ 1000 ∧ keys.length ≤ 4096 ∧ l.length ≤ 4096 ∧ (keys.all fun x => decide (x.size ≤ 1000)) = true) (hl : ∀ x ∈ l, okS x) : okS (.mk k n u s keys l) := by
  rw [okS_eq']
  exact ⟨h.1, fun x hx => by simpa using List.all_eq_true.1 h.2.2.2 x hx, h.2.1, h.2.2.1, hl⟩
theorem kids_nil : ∀ x ∈ ([] : List Tr), okS x := fun x h => by cases h
theorem kids_cons {t : Tr} {l : List Tr} (h : okS t) (hl : ∀ x ∈ l, okS x) : ∀ x ∈ t :: l, okS x := fun x hx => by
  rcases List.mem_cons.1 hx with rfl | h2
  · exact h
  · exact hl x h2
theorem built_doc (w : World) (d : List UInt8) (hl : d.length ≤ 1048576) (fr : Nat × Nat) : Dc d (.slice (some ⟨w.heap.size, 0, none⟩) d.length d.length) (w.alloc (.cells (d.map fun b => Value.int .u8 b.toNat).toArray 5 fr)) := by
  refine ⟨⟨some ⟨w.heap.size, 0, none⟩, d.length, rfl, Nat.le_refl _, fun h => (by cases h), fun i b hb => ⟨w.heap.size, 0, rfl, ?_⟩⟩, hl, fun ad n c e => ?_⟩
  · have h0 : (w.alloc (.cells (d.map fun b => Value.int .u8 b.toNat).toArray 5 fr)).heap[w.heap.size]? = some (.cells (d.map fun b => Value.int .u8 b.toNat).toArray 5 fr) := heap_alloc_new _ _
    unfold World.cell?
    rw [h0]
    simp [hb]
  · cases e
    exact ⟨by rw [World.size_alloc]; exact Nat.lt_succ_self _, _, _, rfl⟩
theorem w27_a : holdsF [5, 4, 1] (.mk 3 5 0 ⟨#[]⟩ [] []) = true := by decide +kernel
theorem w27_b : holdsF [5, 4, 1] (.mk 3 4 0 ⟨#[]⟩ [] []) = false := by decide +kernel
theorem w27_c : holdsF [5, 4, 1] (.mk 4 0 5 ⟨#[]⟩ [] []) = false := by decide +kernel
theorem w27_d : holdsF [2, 104, 105, 0, 3, 20, 1] (.mk 6 0 0 ⟨#[104, 105]⟩ [] []) = true := by decide +kernel
theorem w27_e : holdsF [1, 104, 105, 0, 3, 20, 1] (.mk 6 0 0 ⟨#[104]⟩ [] []) = false := by decide +kernel
theorem w27_f : holdsF [1, 104, 105, 0, 3, 20, 1] (.mk 6 0 0 ⟨#[104, 105]⟩ [] []) = false := by decide +kernel
theorem w27_g : holdsF [2, 0, 1, 0, 44, 1, 5, 5, 6, 41, 1] (.mk 10 0 0 ⟨#[]⟩ [] [(.mk 3 1 0 ⟨#[]⟩ [] []), (.mk 3 300 0 ⟨#[]⟩ [] [])]) = true := by decide +kernel
theorem w27_h : holdsF [2, 0, 1, 0, 44, 1, 5, 5, 6, 41, 1] (.mk 11 0 0 ⟨#[]⟩ [] [(.mk 3 1 0 ⟨#[]⟩ [] []), (.mk 3 300 0 ⟨#[]⟩ [] [])]) = false := by decide +kernel
theorem w27_i : holdsF [97, 0, 98, 0, 2, 5, 4, 2, 1, 2, 0, 1, 0, 4, 4, 36, 1] (.mk 17 0 0 ⟨#[]⟩ [⟨#[97]⟩, ⟨#[98]⟩] [(.mk 1 0 0 ⟨#[]⟩ [] []), (.mk 3 1 0 ⟨#[]⟩ [] [])]) = true := by decide +kernel
theorem w27_j : holdsF [97, 0, 98, 0, 2, 5, 4, 2, 1, 2, 0, 1, 0, 4, 4, 36, 1] (.mk 17 0 0 ⟨#[]⟩ [⟨#[98]⟩, ⟨#[97]⟩] [(.mk 3 1 0 ⟨#[]⟩ [] []), (.mk 1 0 0 ⟨#[]⟩ [] [])]) = false := by decide +kernel
theorem w27_k : holdsF [1, 2, 40, 40, 0, 40, 1] (.mk 10 0 0 ⟨#[]⟩ [] [(.mk 10 0 0 ⟨#[]⟩ [] [])]) = false := by decide +kernel
theorem w27_l : holdsF [1, 2, 40, 40, 0, 40, 1] (.mk 10 0 0 ⟨#[]⟩ [] [(.mk 1 0 0 ⟨#[]⟩ [] [])]) = false := by decide +kernel
theorem w27_m : holdsF [] (.mk 1 0 0 ⟨#[]⟩ [] []) = false := by decide +kernel
set_option maxRecDepth 100000 in
set_option maxHeartbeats 8000000 in
theorem works27_any (w : World) : Calls Try.prog 14 #[] w fun r w' => r = .returned (.bool true) ∧ Grew w w' := by
  go_enter Try.func14, Try.ntmps14
  have kc := fun (w : World) (C : Array Value) (n c : Nat) => Lib.run_convert_bytes_const (P := Try.prog) w 22 5 C n c Try.underlying22 Try.underlying5
  have HG := Lib.hid (Grew.refl w)
  go_wp2_with fail
  obtain ⟨g1, hs1⟩ : ∃ g, w.heap.size = g := ⟨_, rfl⟩
  have d1 : Dc [5, 4, 1] (.slice (some ⟨w.heap.size, 0, none⟩) 3 3) (w.alloc (.cells #[.int .u8 5, .int .u8 4, .int .u8 1] 5 (3, 4))) := built_doc w [5, 4, 1] (by decide) (3, 4)
  have hg1 := (Grew.refl w).alloc (.cells #[.int .u8 5, .int .u8 4, .int .u8 1] 5 (3, 4))
  have hz1 : (w.alloc (.cells #[.int .u8 5, .int .u8 4, .int .u8 1] 5 (3, 4))).heap.size = w.heap.size + 1 := World.size_alloc _ _
  generalize (w.alloc (.cells #[.int .u8 5, .int .u8 4, .int .u8 1] 5 (3, 4))) = w1 at *
  rw [hs1] at d1 hz1
  try rw [hs1]
  replace HG := Lib.hid (HG.out.trans hg1)
  clear hg1
  have hk : (convert 22 22 (.slice (some ⟨g1 + 1, 0, none⟩) 7 7)).run Try.prog (w1.alloc (.cells #[.int .u8 2, .int .u8 104, .int .u8 105, .int .u8 0, .int .u8 3, .int .u8 20, .int .u8 1] 5)) = .ok (.slice (some ⟨g1 + 1, 0, none⟩) 7 7) (w1.alloc (.cells #[.int .u8 2, .int .u8 104, .int .u8 105, .int .u8 0, .int .u8 3, .int .u8 20, .int .u8 1] 5 (7, 8))) := by
    rw [← hz1]
    exact kc w1 #[.int .u8 2, .int .u8 104, .int .u8 105, .int .u8 0, .int .u8 3, .int .u8 20, .int .u8 1] 7 7
  rw [hk]
  clear hk
  go_wp2_with fail
  have hs2 := hz1
  have d2 : Dc [2, 104, 105, 0, 3, 20, 1] (.slice (some ⟨w1.heap.size, 0, none⟩) 7 7) (w1.alloc (.cells #[.int .u8 2, .int .u8 104, .int .u8 105, .int .u8 0, .int .u8 3, .int .u8 20, .int .u8 1] 5 (7, 8))) := built_doc w1 [2, 104, 105, 0, 3, 20, 1] (by decide) (7, 8)
  have hg2 := (Grew.refl w1).alloc (.cells #[.int .u8 2, .int .u8 104, .int .u8 105, .int .u8 0, .int .u8 3, .int .u8 20, .int .u8 1] 5 (7, 8))
  have hz2 : (w1.alloc (.cells #[.int .u8 2, .int .u8 104, .int .u8 105, .int .u8 0, .int .u8 3, .int .u8 20, .int .u8 1] 5 (7, 8))).heap.size = w1.heap.size + 1 := World.size_alloc _ _
  generalize (w1.alloc (.cells #[.int .u8 2, .int .u8 104, .int .u8 105, .int .u8 0, .int .u8 3, .int .u8 20, .int .u8 1] 5 (7, 8))) = w2 at *
  rw [hs2] at d2 hz2
  try rw [hs2]
  replace d1 := Dc.st _ _ _ _ hg2 d1
  replace HG := Lib.hid (HG.out.trans hg2)
  clear hg2
  have hs3 := hz2
  have hvn := heap_alloc_new w2 (.cells #[.int .i64 1, .int .i64 0, .int .u64 0, .string ⟨#[]⟩, .slice none 0 0, .slice none 0 0] 27)
  have hg3 := (Grew.refl w2).alloc (.cells #[.int .i64 1, .int .i64 0, .int .u64 0, .string ⟨#[]⟩, .slice none 0 0, .slice none 0 0] 27)
  have hz3 : (w2.alloc (.cells #[.int .i64 1, .int .i64 0, .int .u64 0, .string ⟨#[]⟩, .slice none 0 0, .slice none 0 0] 27)).heap.size = w2.heap.size + 1 := World.size_alloc _ _
  generalize (w2.alloc (.cells #[.int .i64 1, .int .i64 0, .int .u64 0, .string ⟨#[]⟩, .slice none 0 0, .slice none 0 0] 27)) = w3 at *
  rw [hs3] at hvn hz3
  try rw [hs3]
  replace d1 := Dc.st _ _ _ _ hg3 d1
  replace d2 := Dc.st _ _ _ _ hg3 d2
  replace HG := Lib.hid (HG.out.trans hg3)
  clear hg3
  refine (num27_any 5 w3).mono ?_
  rintro r v1 ⟨rfl, hgc⟩
  replace d1 := Dc.st _ _ _ _ hgc d1
  replace d2 := Dc.st _ _ _ _ hgc d2
  replace hvn := hgc.heap hvn
  replace HG := Lib.hid (HG.out.trans hgc)
  clear hgc
  go_wp2_with fail
  have hh := Holds_any [5, 4, 1] _ (.mk 3 5 0 ⟨#[]⟩ [] []) (okS_mk (by decide) kids_nil) _ v1 d1 (leaf_nd 3 5 0 ⟨#[]⟩ (by unfold i64ok u64ok lenok; decide) _)
  rw [w27_a] at hh
  refine hh.mono ?_
  rintro r v2 ⟨rfl, hgc⟩
  replace d1 := Dc.st _ _ _ _ hgc d1
  replace d2 := Dc.st _ _ _ _ hgc d2
  replace hvn := hgc.heap hvn
  replace HG := Lib.hid (HG.out.trans hgc)
  clear hgc
  clear hh
  go_wp2_with fail
  refine (num27_any 4 v2).mono ?_
  rintro r v3 ⟨rfl, hgc⟩
  replace d1 := Dc.st _ _ _ _ hgc d1
  replace d2 := Dc.st _ _ _ _ hgc d2
  replace hvn := hgc.heap hvn
  replace HG := Lib.hid (HG.out.trans hgc)
  clear hgc
  go_wp2_with fail
  have hh := Holds_any [5, 4, 1] _ (.mk 3 4 0 ⟨#[]⟩ [] []) (okS_mk (by decide) kids_nil) _ v3 d1 (leaf_nd 3 4 0 ⟨#[]⟩ (by unfold i64ok u64ok lenok; decide) _)
  rw [w27_b] at hh
  refine hh.mono ?_
  rintro r v4 ⟨rfl, hgc⟩
  replace d1 := Dc.st _ _ _ _ hgc d1
  replace d2 := Dc.st _ _ _ _ hgc d2
  replace hvn := hgc.heap hvn
  replace HG := Lib.hid (HG.out.trans hgc)
  clear hgc
  clear hh
  go_wp2_with fail
  refine (uns27_any 5 v4).mono ?_
  rintro r v5 ⟨rfl, hgc⟩
  replace d1 := Dc.st _ _ _ _ hgc d1
  replace d2 := Dc.st _ _ _ _ hgc d2
  replace hvn := hgc.heap hvn
  replace HG := Lib.hid (HG.out.trans hgc)
  clear hgc
  go_wp2_with fail
  have hh := Holds_any [5, 4, 1] _ (.mk 4 0 5 ⟨#[]⟩ [] []) (okS_mk (by decide) kids_nil) _ v5 d1 (leaf_nd 4 0 5 ⟨#[]⟩ (by unfold i64ok u64ok lenok; decide) _)
  rw [w27_c] at hh
  refine hh.mono ?_
  rintro r v6 ⟨rfl, hgc⟩
  replace d1 := Dc.st _ _ _ _ hgc d1
  replace d2 := Dc.st _ _ _ _ hgc d2
  replace hvn := hgc.heap hvn
  replace HG := Lib.hid (HG.out.trans hgc)
  clear hgc
  clear hh
  go_wp2_with fail
  refine (text27_any ⟨#[104, 105]⟩ v6).mono ?_
  rintro r v7 ⟨rfl, hgc⟩
  replace d1 := Dc.st _ _ _ _ hgc d1
  replace d2 := Dc.st _ _ _ _ hgc d2
  replace hvn := hgc.heap hvn
  replace HG := Lib.hid (HG.out.trans hgc)
  clear hgc
  go_wp2_with fail
  have hh := Holds_any [2, 104, 105, 0, 3, 20, 1] _ (.mk 6 0 0 ⟨#[104, 105]⟩ [] []) (okS_mk (by decide) kids_nil) _ v7 d2 (leaf_nd 6 0 0 ⟨#[104, 105]⟩ (by unfold i64ok u64ok lenok; decide) _)
  rw [w27_d] at hh
  refine hh.mono ?_
  rintro r v8 ⟨rfl, hgc⟩
  replace d1 := Dc.st _ _ _ _ hgc d1
  replace d2 := Dc.st _ _ _ _ hgc d2
  replace hvn := hgc.heap hvn
  replace HG := Lib.hid (HG.out.trans hgc)
  clear hgc
  clear hh
  go_wp2_with fail
  clear d1 d2
  obtain ⟨g4, hs4⟩ : ∃ g, v8.heap.size = g := ⟨_, rfl⟩
  have d4 : Dc [1, 104, 105, 0, 3, 20, 1] (.slice (some ⟨v8.heap.size, 0, none⟩) 7 7) (v8.alloc (.cells #[.int .u8 1, .int .u8 104, .int .u8 105, .int .u8 0, .int .u8 3, .int .u8 20, .int .u8 1] 5 (7, 8))) := built_doc v8 [1, 104, 105, 0, 3, 20, 1] (by decide) (7, 8)
  have hg4 := (Grew.refl v8).alloc (.cells #[.int .u8 1, .int .u8 104, .int .u8 105, .int .u8 0, .int .u8 3, .int .u8 20, .int .u8 1] 5 (7, 8))
  have hz4 : (v8.alloc (.cells #[.int .u8 1, .int .u8 104, .int .u8 105, .int .u8 0, .int .u8 3, .int .u8 20, .int .u8 1] 5 (7, 8))).heap.size = v8.heap.size + 1 := World.size_alloc _ _
  generalize (v8.alloc (.cells #[.int .u8 1, .int .u8 104, .int .u8 105, .int .u8 0, .int .u8 3, .int .u8 20, .int .u8 1] 5 (7, 8))) = w4 at *
  rw [hs4] at d4 hz4
  try rw [hs4]
  replace hvn := hg4.heap hvn
  replace HG := Lib.hid (HG.out.trans hg4)
  clear hg4
  have hk : (convert 22 22 (.slice (some ⟨g4 + 1, 0, none⟩) 11 11)).run Try.prog (w4.alloc (.cells #[.int .u8 2, .int .u8 0, .int .u8 1, .int .u8 0, .int .u8 44, .int .u8 1, .int .u8 5, .int .u8 5, .int .u8 6, .int .u8 41, .int .u8 1] 5)) = .ok (.slice (some ⟨g4 + 1, 0, none⟩) 11 11) (w4.alloc (.cells #[.int .u8 2, .int .u8 0, .int .u8 1, .int .u8 0, .int .u8 44, .int .u8 1, .int .u8 5, .int .u8 5, .int .u8 6, .int .u8 41, .int .u8 1] 5 (11, 12))) := by
    rw [← hz4]
    exact kc w4 #[.int .u8 2, .int .u8 0, .int .u8 1, .int .u8 0, .int .u8 44, .int .u8 1, .int .u8 5, .int .u8 5, .int .u8 6, .int .u8 41, .int .u8 1] 11 11
  rw [hk]
  clear hk
  go_wp2_with fail
  have hs5 := hz4
  have d5 : Dc [2, 0, 1, 0, 44, 1, 5, 5, 6, 41, 1] (.slice (some ⟨w4.heap.size, 0, none⟩) 11 11) (w4.alloc (.cells #[.int .u8 2, .int .u8 0, .int .u8 1, .int .u8 0, .int .u8 44, .int .u8 1, .int .u8 5, .int .u8 5, .int .u8 6, .int .u8 41, .int .u8 1] 5 (11, 12))) := built_doc w4 [2, 0, 1, 0, 44, 1, 5, 5, 6, 41, 1] (by decide) (11, 12)
  have hg5 := (Grew.refl w4).alloc (.cells #[.int .u8 2, .int .u8 0, .int .u8 1, .int .u8 0, .int .u8 44, .int .u8 1, .int .u8 5, .int .u8 5, .int .u8 6, .int .u8 41, .int .u8 1] 5 (11, 12))
  have hz5 : (w4.alloc (.cells #[.int .u8 2, .int .u8 0, .int .u8 1, .int .u8 0, .int .u8 44, .int .u8 1, .int .u8 5, .int .u8 5, .int .u8 6, .int .u8 41, .int .u8 1] 5 (11, 12))).heap.size = w4.heap.size + 1 := World.size_alloc _ _
  generalize (w4.alloc (.cells #[.int .u8 2, .int .u8 0, .int .u8 1, .int .u8 0, .int .u8 44, .int .u8 1, .int .u8 5, .int .u8 5, .int .u8 6, .int .u8 41, .int .u8 1] 5 (11, 12))) = w5 at *
  rw [hs5] at d5 hz5
  try rw [hs5]
  replace hvn := hg5.heap hvn
  replace d4 := Dc.st _ _ _ _ hg5 d4
  replace HG := Lib.hid (HG.out.trans hg5)
  clear hg5
  refine (text27_any ⟨#[104]⟩ w5).mono ?_
  rintro r v9 ⟨rfl, hgc⟩
  replace hvn := hgc.heap hvn
  replace d4 := Dc.st _ _ _ _ hgc d4
  replace d5 := Dc.st _ _ _ _ hgc d5
  replace HG := Lib.hid (HG.out.trans hgc)
  clear hgc
  go_wp2_with fail
  have hh := Holds_any [1, 104, 105, 0, 3, 20, 1] _ (.mk 6 0 0 ⟨#[104]⟩ [] []) (okS_mk (by decide) kids_nil) _ v9 d4 (leaf_nd 6 0 0 ⟨#[104]⟩ (by unfold i64ok u64ok lenok; decide) _)
  rw [w27_e] at hh
  refine hh.mono ?_
  rintro r v10 ⟨rfl, hgc⟩
  replace hvn := hgc.heap hvn
  replace d4 := Dc.st _ _ _ _ hgc d4
  replace d5 := Dc.st _ _ _ _ hgc d5
  replace HG := Lib.hid (HG.out.trans hgc)
  clear hgc
  clear hh
  go_wp2_with fail
  refine (text27_any ⟨#[104, 105]⟩ v10).mono ?_
  rintro r v11 ⟨rfl, hgc⟩
  replace hvn := hgc.heap hvn
  replace d4 := Dc.st _ _ _ _ hgc d4
  replace d5 := Dc.st _ _ _ _ hgc d5
  replace HG := Lib.hid (HG.out.trans hgc)
  clear hgc
  go_wp2_with fail
  have hh := Holds_any [1, 104, 105, 0, 3, 20, 1] _ (.mk 6 0 0 ⟨#[104, 105]⟩ [] []) (okS_mk (by decide) kids_nil) _ v11 d4 (leaf_nd 6 0 0 ⟨#[104, 105]⟩ (by unfold i64ok u64ok lenok; decide) _)
  rw [w27_f] at hh
  refine hh.mono ?_
  rintro r v12 ⟨rfl, hgc⟩
  replace hvn := hgc.heap hvn
  replace d4 := Dc.st _ _ _ _ hgc d4
  replace d5 := Dc.st _ _ _ _ hgc d5
  replace HG := Lib.hid (HG.out.trans hgc)
  clear hgc
  clear hh
  go_wp2_with fail
  refine (num27_any 1 v12).mono ?_
  rintro r v13 ⟨rfl, hgc⟩
  replace hvn := hgc.heap hvn
  replace d4 := Dc.st _ _ _ _ hgc d4
  replace d5 := Dc.st _ _ _ _ hgc d5
  replace HG := Lib.hid (HG.out.trans hgc)
  clear hgc
  go_wp2_with fail
  refine (num27_any 300 v13).mono ?_
  rintro r v14 ⟨rfl, hgc⟩
  replace hvn := hgc.heap hvn
  replace d4 := Dc.st _ _ _ _ hgc d4
  replace d5 := Dc.st _ _ _ _ hgc d5
  replace HG := Lib.hid (HG.out.trans hgc)
  clear hgc
  go_wp2_with fail
  obtain ⟨g6, hs6⟩ : ∃ g, v14.heap.size = g := ⟨_, rfl⟩
  have r1 : Rn [(.mk 3 1 0 ⟨#[]⟩ [] []), (.mk 3 300 0 ⟨#[]⟩ [] [])] (.slice (some ⟨v14.heap.size, 0, none⟩) 2 2) (v14.alloc (.cells #[.int .i64 3, .int .i64 1, .int .u64 0, .string ⟨#[]⟩, .slice none 0 0, .slice none 0 0, .int .i64 3, .int .i64 300, .int .u64 0, .string ⟨#[]⟩, .slice none 0 0, .slice none 0 0] 27)) := built_nodes v14 [(.mk 3 1 0 ⟨#[]⟩ [] []), (.mk 3 300 0 ⟨#[]⟩ [] [])] [.agg #[.int .i64 3, .int .i64 1, .int .u64 0, .string ⟨#[]⟩, .slice none 0 0, .slice none 0 0], .agg #[.int .i64 3, .int .i64 300, .int .u64 0, .string ⟨#[]⟩, .slice none 0 0, .slice none 0 0]] (by intro x hx; simp only [List.mem_cons, List.not_mem_nil, or_false] at hx; rcases hx with rfl | rfl <;> exact ⟨_, _, _, _, _, _, _, _, _, _, rfl⟩) ⟨_, _, rfl, (leaf_nd 3 1 0 ⟨#[]⟩ (by unfold i64ok u64ok lenok; decide) _), ⟨_, _, rfl, (leaf_nd 3 300 0 ⟨#[]⟩ (by unfold i64ok u64ok lenok; decide) _), rfl⟩⟩ (by simp)
  have hg6 := (Grew.refl v14).alloc (.cells #[.int .i64 3, .int .i64 1, .int .u64 0, .string ⟨#[]⟩, .slice none 0 0, .slice none 0 0, .int .i64 3, .int .i64 300, .int .u64 0, .string ⟨#[]⟩, .slice none 0 0, .slice none 0 0] 27)
  have hz6 : (v14.alloc (.cells #[.int .i64 3, .int .i64 1, .int .u64 0, .string ⟨#[]⟩, .slice none 0 0, .slice none 0 0, .int .i64 3, .int .i64 300, .int .u64 0, .string ⟨#[]⟩, .slice none 0 0, .slice none 0 0] 27)).heap.size = v14.heap.size + 1 := World.size_alloc _ _
  generalize (v14.alloc (.cells #[.int .i64 3, .int .i64 1, .int .u64 0, .string ⟨#[]⟩, .slice none 0 0, .slice none 0 0, .int .i64 3, .int .i64 300, .int .u64 0, .string ⟨#[]⟩, .slice none 0 0, .slice none 0 0] 27)) = w6 at *
  rw [hs6] at r1 hz6
  try rw [hs6]
  replace hvn := hg6.heap hvn
  replace d4 := Dc.st _ _ _ _ hg6 d4
  replace d5 := Dc.st _ _ _ _ hg6 d5
  replace HG := Lib.hid (HG.out.trans hg6)
  clear hg6
  have n1 := vecK_nd 10 (by unfold i64ok; decide) r1
  refine (list27_any 10 _ _ _ w6).mono ?_
  rintro r v15 ⟨rfl, hgc⟩
  replace hvn := hgc.heap hvn
  replace d4 := Dc.st _ _ _ _ hgc d4
  replace d5 := Dc.st _ _ _ _ hgc d5
  replace r1 := Rn.st _ _ _ _ hgc r1
  replace n1 := Nd.st _ _ _ _ hgc n1
  replace HG := Lib.hid (HG.out.trans hgc)
  clear hgc
  go_wp2_with fail
  have hh := Holds_any [2, 0, 1, 0, 44, 1, 5, 5, 6, 41, 1] _ (.mk 10 0 0 ⟨#[]⟩ [] [(.mk 3 1 0 ⟨#[]⟩ [] []), (.mk 3 300 0 ⟨#[]⟩ [] [])]) (okS_mk (by decide) (kids_cons (okS_mk (by decide) kids_nil) (kids_cons (okS_mk (by decide) kids_nil) kids_nil))) _ v15 d5 n1
  rw [w27_g] at hh
  refine hh.mono ?_
  rintro r v16 ⟨rfl, hgc⟩
  replace hvn := hgc.heap hvn
  replace d4 := Dc.st _ _ _ _ hgc d4
  replace d5 := Dc.st _ _ _ _ hgc d5
  replace r1 := Rn.st _ _ _ _ hgc r1
  replace n1 := Nd.st _ _ _ _ hgc n1
  replace HG := Lib.hid (HG.out.trans hgc)
  clear hgc
  clear hh
  go_wp2_with fail
  refine (num27_any 1 v16).mono ?_
  rintro r v17 ⟨rfl, hgc⟩
  replace hvn := hgc.heap hvn
  replace d4 := Dc.st _ _ _ _ hgc d4
  replace d5 := Dc.st _ _ _ _ hgc d5
  replace r1 := Rn.st _ _ _ _ hgc r1
  replace n1 := Nd.st _ _ _ _ hgc n1
  replace HG := Lib.hid (HG.out.trans hgc)
  clear hgc
  go_wp2_with fail
  refine (num27_any 300 v17).mono ?_
  rintro r v18 ⟨rfl, hgc⟩
  replace hvn := hgc.heap hvn
  replace d4 := Dc.st _ _ _ _ hgc d4
  replace d5 := Dc.st _ _ _ _ hgc d5
  replace r1 := Rn.st _ _ _ _ hgc r1
  replace n1 := Nd.st _ _ _ _ hgc n1
  replace HG := Lib.hid (HG.out.trans hgc)
  clear hgc
  go_wp2_with fail
  obtain ⟨g7, hs7⟩ : ∃ g, v18.heap.size = g := ⟨_, rfl⟩
  have r2 : Rn [(.mk 3 1 0 ⟨#[]⟩ [] []), (.mk 3 300 0 ⟨#[]⟩ [] [])] (.slice (some ⟨v18.heap.size, 0, none⟩) 2 2) (v18.alloc (.cells #[.int .i64 3, .int .i64 1, .int .u64 0, .string ⟨#[]⟩, .slice none 0 0, .slice none 0 0, .int .i64 3, .int .i64 300, .int .u64 0, .string ⟨#[]⟩, .slice none 0 0, .slice none 0 0] 27)) := built_nodes v18 [(.mk 3 1 0 ⟨#[]⟩ [] []), (.mk 3 300 0 ⟨#[]⟩ [] [])] [.agg #[.int .i64 3, .int .i64 1, .int .u64 0, .string ⟨#[]⟩, .slice none 0 0, .slice none 0 0], .agg #[.int .i64 3, .int .i64 300, .int .u64 0, .string ⟨#[]⟩, .slice none 0 0, .slice none 0 0]] (by intro x hx; simp only [List.mem_cons, List.not_mem_nil, or_false] at hx; rcases hx with rfl | rfl <;> exact ⟨_, _, _, _, _, _, _, _, _, _, rfl⟩) ⟨_, _, rfl, (leaf_nd 3 1 0 ⟨#[]⟩ (by unfold i64ok u64ok lenok; decide) _), ⟨_, _, rfl, (leaf_nd 3 300 0 ⟨#[]⟩ (by unfold i64ok u64ok lenok; decide) _), rfl⟩⟩ (by simp)
  have hg7 := (Grew.refl v18).alloc (.cells #[.int .i64 3, .int .i64 1, .int .u64 0, .string ⟨#[]⟩, .slice none 0 0, .slice none 0 0, .int .i64 3, .int .i64 300, .int .u64 0, .string ⟨#[]⟩, .slice none 0 0, .slice none 0 0] 27)
  have hz7 : (v18.alloc (.cells #[.int .i64 3, .int .i64 1, .int .u64 0, .string ⟨#[]⟩, .slice none 0 0, .slice none 0 0, .int .i64 3, .int .i64 300, .int .u64 0, .string ⟨#[]⟩, .slice none 0 0, .slice none 0 0] 27)).heap.size = v18.heap.size + 1 := World.size_alloc _ _
  generalize (v18.alloc (.cells #[.int .i64 3, .int .i64 1, .int .u64 0, .string ⟨#[]⟩, .slice none 0 0, .slice none 0 0, .int .i64 3, .int .i64 300, .int .u64 0, .string ⟨#[]⟩, .slice none 0 0, .slice none 0 0] 27)) = w7 at *
  rw [hs7] at r2 hz7
  try rw [hs7]
  replace hvn := hg7.heap hvn
  replace d4 := Dc.st _ _ _ _ hg7 d4
  replace d5 := Dc.st _ _ _ _ hg7 d5
  replace r1 := Rn.st _ _ _ _ hg7 r1
  replace n1 := Nd.st _ _ _ _ hg7 n1
  replace HG := Lib.hid (HG.out.trans hg7)
  clear hg7
  have n2 := vecK_nd 11 (by unfold i64ok; decide) r2
  refine (list27_any 11 _ _ _ w7).mono ?_
  rintro r v19 ⟨rfl, hgc⟩
  replace hvn := hgc.heap hvn
  replace d4 := Dc.st _ _ _ _ hgc d4
  replace d5 := Dc.st _ _ _ _ hgc d5
  replace r1 := Rn.st _ _ _ _ hgc r1
  replace n1 := Nd.st _ _ _ _ hgc n1
  replace r2 := Rn.st _ _ _ _ hgc r2
  replace n2 := Nd.st _ _ _ _ hgc n2
  replace HG := Lib.hid (HG.out.trans hgc)
  clear hgc
  go_wp2_with fail
  have hh := Holds_any [2, 0, 1, 0, 44, 1, 5, 5, 6, 41, 1] _ (.mk 11 0 0 ⟨#[]⟩ [] [(.mk 3 1 0 ⟨#[]⟩ [] []), (.mk 3 300 0 ⟨#[]⟩ [] [])]) (okS_mk (by decide) (kids_cons (okS_mk (by decide) kids_nil) (kids_cons (okS_mk (by decide) kids_nil) kids_nil))) _ v19 d5 n2
  rw [w27_h] at hh
  refine hh.mono ?_
  rintro r v20 ⟨rfl, hgc⟩
  replace hvn := hgc.heap hvn
  replace d4 := Dc.st _ _ _ _ hgc d4
  replace d5 := Dc.st _ _ _ _ hgc d5
  replace r1 := Rn.st _ _ _ _ hgc r1
  replace n1 := Nd.st _ _ _ _ hgc n1
  replace r2 := Rn.st _ _ _ _ hgc r2
  replace n2 := Nd.st _ _ _ _ hgc n2
  replace HG := Lib.hid (HG.out.trans hgc)
  clear hgc
  clear hh
  go_wp2_with fail
  clear r1 r2 n1 n2 d4 d5
  go_upto_region 9 with fail
  obtain ⟨g8, hs8⟩ : ∃ g, v20.heap.size = g := ⟨_, rfl⟩
  have d6 : Dc [97, 0, 98, 0, 2, 5, 4, 2, 1, 2, 0, 1, 0, 4, 4, 36, 1] (.slice (some ⟨v20.heap.size, 0, none⟩) 17 17) (v20.alloc (.cells #[.int .u8 97, .int .u8 0, .int .u8 98, .int .u8 0, .int .u8 2, .int .u8 5, .int .u8 4, .int .u8 2, .int .u8 1, .int .u8 2, .int .u8 0, .int .u8 1, .int .u8 0, .int .u8 4, .int .u8 4, .int .u8 36, .int .u8 1] 5 (17, 18))) := built_doc v20 [97, 0, 98, 0, 2, 5, 4, 2, 1, 2, 0, 1, 0, 4, 4, 36, 1] (by decide) (17, 18)
  have hg8 := (Grew.refl v20).alloc (.cells #[.int .u8 97, .int .u8 0, .int .u8 98, .int .u8 0, .int .u8 2, .int .u8 5, .int .u8 4, .int .u8 2, .int .u8 1, .int .u8 2, .int .u8 0, .int .u8 1, .int .u8 0, .int .u8 4, .int .u8 4, .int .u8 36, .int .u8 1] 5 (17, 18))
  have hz8 : (v20.alloc (.cells #[.int .u8 97, .int .u8 0, .int .u8 98, .int .u8 0, .int .u8 2, .int .u8 5, .int .u8 4, .int .u8 2, .int .u8 1, .int .u8 2, .int .u8 0, .int .u8 1, .int .u8 0, .int .u8 4, .int .u8 4, .int .u8 36, .int .u8 1] 5 (17, 18))).heap.size = v20.heap.size + 1 := World.size_alloc _ _
  generalize (v20.alloc (.cells #[.int .u8 97, .int .u8 0, .int .u8 98, .int .u8 0, .int .u8 2, .int .u8 5, .int .u8 4, .int .u8 2, .int .u8 1, .int .u8 2, .int .u8 0, .int .u8 1, .int .u8 0, .int .u8 4, .int .u8 4, .int .u8 36, .int .u8 1] 5 (17, 18))) = w8 at *
  rw [hs8] at d6 hz8
  try rw [hs8]
  replace hvn := hg8.heap hvn
  replace HG := Lib.hid (HG.out.trans hg8)
  clear hg8
  have hk : (convert 22 22 (.slice (some ⟨g8 + 1, 0, none⟩) 7 7)).run Try.prog (w8.alloc (.cells #[.int .u8 1, .int .u8 2, .int .u8 40, .int .u8 40, .int .u8 0, .int .u8 40, .int .u8 1] 5)) = .ok (.slice (some ⟨g8 + 1, 0, none⟩) 7 7) (w8.alloc (.cells #[.int .u8 1, .int .u8 2, .int .u8 40, .int .u8 40, .int .u8 0, .int .u8 40, .int .u8 1] 5 (7, 8))) := by
    rw [← hz8]
    exact kc w8 #[.int .u8 1, .int .u8 2, .int .u8 40, .int .u8 40, .int .u8 0, .int .u8 40, .int .u8 1] 7 7
  rw [hk]
  clear hk
  go_upto_region 10 with fail
  have hs9 := hz8
  have d7 : Dc [1, 2, 40, 40, 0, 40, 1] (.slice (some ⟨w8.heap.size, 0, none⟩) 7 7) (w8.alloc (.cells #[.int .u8 1, .int .u8 2, .int .u8 40, .int .u8 40, .int .u8 0, .int .u8 40, .int .u8 1] 5 (7, 8))) := built_doc w8 [1, 2, 40, 40, 0, 40, 1] (by decide) (7, 8)
  have hg9 := (Grew.refl w8).alloc (.cells #[.int .u8 1, .int .u8 2, .int .u8 40, .int .u8 40, .int .u8 0, .int .u8 40, .int .u8 1] 5 (7, 8))
  have hz9 : (w8.alloc (.cells #[.int .u8 1, .int .u8 2, .int .u8 40, .int .u8 40, .int .u8 0, .int .u8 40, .int .u8 1] 5 (7, 8))).heap.size = w8.heap.size + 1 := World.size_alloc _ _
  generalize (w8.alloc (.cells #[.int .u8 1, .int .u8 2, .int .u8 40, .int .u8 40, .int .u8 0, .int .u8 40, .int .u8 1] 5 (7, 8))) = w9 at *
  rw [hs9] at d7 hz9
  try rw [hs9]
  replace hvn := hg9.heap hvn
  replace d6 := Dc.st _ _ _ _ hg9 d6
  replace HG := Lib.hid (HG.out.trans hg9)
  clear hg9
  have a0 := row_cellT hvn 0 _ rfl
  have a1 := row_cellT hvn 1 _ rfl
  have a2 := row_cellT hvn 2 _ rfl
  have a3 := row_cellT hvn 3 _ rfl
  have a4 := row_cellT hvn 4 _ rfl
  have a5 := row_cellT hvn 5 _ rfl
  clear hvn
  refine wp_region_tables Grew [[], [], [], [], [2, 3], [1, 2, 3, 4], [0, 1, 2, 3, 4, 5], [0, 1, 2, 3, 4, 5, 6], [0, 1, 2, 3, 4, 5, 6, 7], [0, 1, 2, 3, 4, 5, 6, 7], [0, 1, 2, 3, 4, 5, 6, 7], [0, 1, 2, 3, 4, 5, 6, 7], [0, 1, 2, 3, 4, 5, 6, 7, 10, 11], [0, 1, 2, 3, 4, 5, 6, 7, 9, 10, 11, 12], [0, 1, 2, 3, 4, 5, 6, 7, 8, 9, 10, 11, 12, 13], [0, 1, 2, 3, 4, 5, 6, 7, 8, 9, 10, 11, 12, 13, 14], [0, 1, 2, 3, 4, 5, 6, 7, 8, 9, 10, 11, 12, 13, 14, 15], [0, 1, 2, 3, 4, 5, 6, 7, 8, 9, 10, 11, 12, 13, 14, 15, 16], [0, 1, 2, 3, 4, 5, 6, 7, 8, 9, 10, 11, 12, 13, 14, 15, 16, 17], [0, 1, 2, 3, 4, 5, 6, 7, 8, 9, 10, 11, 12, 13, 14, 15, 16, 17], [0, 1, 2, 3, 4, 5, 6, 7, 8, 9, 10, 11, 12, 13, 14, 15, 16, 17, 19], [0, 1, 2, 3, 4, 5, 6, 7, 8, 9, 10, 11, 12, 13, 14, 15, 16, 17, 19, 20], [0, 1, 2, 3, 4, 5, 6, 7, 8, 9, 10, 11, 12, 13, 14, 15, 16, 17, 18, 19, 20, 21], [0, 1, 2, 3, 4, 5, 6, 7, 8, 9, 10, 11, 12, 13, 14, 15, 16, 17, 18, 19, 20, 21, 22], [0, 1, 2, 3, 4, 5, 6, 7, 8, 9, 10, 11, 12, 13, 14, 15, 16, 17, 18, 19, 20, 21, 22, 23], [0, 1, 2, 3, 4, 5, 6, 7, 8, 9, 10, 11, 12, 13, 14, 15, 16, 17, 18, 19, 20, 21, 22, 23, 24], [0, 1, 2, 3, 4, 5, 6, 7, 8, 9, 10, 11, 12, 13, 14, 15, 16, 17, 18, 19, 20, 21, 22, 23, 24, 25], [0, 1, 2, 3, 4, 5, 6, 7, 8, 9, 10, 11, 12, 13, 14, 15, 16, 17, 18, 19, 20, 21, 22, 23, 24, 25], [0, 1, 2, 3, 4, 5, 6, 7, 8, 9, 10, 11, 12, 13, 14, 15, 16, 17, 18, 19, 20, 21, 22, 23, 24, 25, 27], [0, 1, 2, 3, 4, 5, 6, 7, 8, 9, 10, 11, 12, 13, 14, 15, 16, 17, 18, 19, 20, 21, 22, 23, 24, 25, 27, 28], [0, 1, 2, 3, 4, 5, 6, 7, 8, 9, 10, 11, 12, 13, 14, 15, 16, 17, 18, 19, 20, 21, 22, 23, 24, 25, 26, 27, 28, 29], [0, 1, 2, 3, 4, 5, 6, 7, 8, 9, 10, 11, 12, 13, 14, 15, 16, 17, 18, 19, 20, 21, 22, 23, 24, 25, 26, 27, 28, 29, 30], [0, 1, 2, 3, 4, 5, 6, 7, 8, 9, 10, 11, 12, 13, 14, 15, 16, 17, 18, 19, 20, 21, 22, 23, 24, 25, 26, 27, 28, 29, 30, 31], [0, 1, 2, 3, 4, 5, 6, 7, 8, 9, 10, 11, 12, 13, 14, 15, 16, 17, 18, 19, 20, 21, 22, 23, 24, 25, 26, 27, 28, 29, 30, 31, 32], [0, 1, 2, 3, 4, 5, 6, 7, 8, 9, 10, 11, 12, 13, 14, 15, 16, 17, 18, 19, 20, 21, 22, 23, 24, 25, 26, 27, 28, 29, 30, 31, 32, 33], [0, 1, 2, 3, 4, 5, 6, 7, 8, 9, 10, 11, 12, 13, 14, 15, 16, 17, 18, 19, 20, 21, 22, 23, 24, 25, 26, 27, 28, 29, 30, 31, 32, 33, 34], [0, 1, 2, 3, 4, 5, 6, 7, 8, 9, 10, 11, 12, 13, 14, 15, 16, 17, 18, 19, 20, 21, 22, 23, 24, 25, 26, 27, 28, 29, 30, 31, 32, 33, 34, 35], [0, 1, 2, 3, 4, 5, 6, 7, 8, 9, 10, 11, 12, 13, 14, 15, 16, 17, 18, 19, 20, 21, 22, 23, 24, 25, 26, 27, 28, 29, 30, 31, 32, 33, 34, 35, 36], [0, 1, 2, 3, 4, 5, 6, 7, 8, 9, 10, 11, 12, 13, 14, 15, 16, 17, 18, 19, 20, 21, 22, 23, 24, 25, 26, 27, 28, 29, 30, 31, 32, 33, 34, 35, 36, 37]] [[(67, 1), (68, 2), (69, 3), (70, 4), (71, 5)], [(66, 0), (68, 2), (69, 3), (70, 4)], [(66, 0), (67, 1), (69, 3)], [(66, 0), (67, 1), (68, 2)], [(66, 0), (67, 1), (68, 2), (69, 3)], [(66, 0), (67, 1), (68, 2), (69, 3), (70, 4)], [(66, 0), (67, 1), (68, 2), (69, 3), (70, 4), (71, 5)], [(66, 0), (67, 1), (68, 2), (69, 3), (70, 4), (71, 5), (72, 6)], [(66, 0), (67, 1), (68, 2), (69, 3), (70, 4), (71, 5), (72, 6), (73, 7), (75, 9), (76, 10), (77, 11), (78, 12), (79, 13)], [(66, 0), (67, 1), (68, 2), (69, 3), (70, 4), (71, 5), (72, 6), (73, 7), (74, 8), (76, 10), (77, 11), (78, 12)], [(66, 0), (67, 1), (68, 2), (69, 3), (70, 4), (71, 5), (72, 6), (73, 7), (74, 8), (75, 9), (77, 11)], [(66, 0), (67, 1), (68, 2), (69, 3), (70, 4), (71, 5), (72, 6), (73, 7), (74, 8), (75, 9), (76, 10)], [(66, 0), (67, 1), (68, 2), (69, 3), (70, 4), (71, 5), (72, 6), (73, 7), (74, 8), (75, 9), (76, 10), (77, 11)], [(66, 0), (67, 1), (68, 2), (69, 3), (70, 4), (71, 5), (72, 6), (73, 7), (74, 8), (75, 9), (76, 10), (77, 11), (78, 12)], [(66, 0), (67, 1), (68, 2), (69, 3), (70, 4), (71, 5), (72, 6), (73, 7), (74, 8), (75, 9), (76, 10), (77, 11), (78, 12), (79, 13)], [(66, 0), (67, 1), (68, 2), (69, 3), (70, 4), (71, 5), (72, 6), (73, 7), (74, 8), (75, 9), (76, 10), (77, 11), (78, 12), (79, 13), (80, 14)], [(66, 0), (67, 1), (68, 2), (69, 3), (70, 4), (71, 5), (72, 6), (73, 7), (74, 8), (75, 9), (76, 10), (77, 11), (78, 12), (79, 13), (80, 14), (81, 15)], [(66, 0), (67, 1), (68, 2), (69, 3), (70, 4), (71, 5), (72, 6), (73, 7), (74, 8), (75, 9), (76, 10), (77, 11), (78, 12), (79, 13), (80, 14), (81, 15), (82, 16)], [(66, 0), (67, 1), (68, 2), (69, 3), (70, 4), (71, 5), (72, 6), (73, 7), (74, 8), (75, 9), (76, 10), (77, 11), (78, 12), (79, 13), (80, 14), (81, 15), (82, 16), (83, 17), (85, 19), (86, 20), (87, 21)], [(66, 0), (67, 1), (68, 2), (69, 3), (70, 4), (71, 5), (72, 6), (73, 7), (74, 8), (75, 9), (76, 10), (77, 11), (78, 12), (79, 13), (80, 14), (81, 15), (82, 16), (83, 17), (84, 18)], [(66, 0), (67, 1), (68, 2), (69, 3), (70, 4), (71, 5), (72, 6), (73, 7), (74, 8), (75, 9), (76, 10), (77, 11), (78, 12), (79, 13), (80, 14), (81, 15), (82, 16), (83, 17), (84, 18), (85, 19)], [(66, 0), (67, 1), (68, 2), (69, 3), (70, 4), (71, 5), (72, 6), (73, 7), (74, 8), (75, 9), (76, 10), (77, 11), (78, 12), (79, 13), (80, 14), (81, 15), (82, 16), (83, 17), (84, 18), (85, 19), (86, 20)], [(66, 0), (67, 1), (68, 2), (69, 3), (70, 4), (71, 5), (72, 6), (73, 7), (74, 8), (75, 9), (76, 10), (77, 11), (78, 12), (79, 13), (80, 14), (81, 15), (82, 16), (83, 17), (84, 18), (85, 19), (86, 20), (87, 21)], [(66, 0), (67, 1), (68, 2), (69, 3), (70, 4), (71, 5), (72, 6), (73, 7), (74, 8), (75, 9), (76, 10), (77, 11), (78, 12), (79, 13), (80, 14), (81, 15), (82, 16), (83, 17), (84, 18), (85, 19), (86, 20), (87, 21), (88, 22)], [(66, 0), (67, 1), (68, 2), (69, 3), (70, 4), (71, 5), (72, 6), (73, 7), (74, 8), (75, 9), (76, 10), (77, 11), (78, 12), (79, 13), (80, 14), (81, 15), (82, 16), (83, 17), (84, 18), (85, 19), (86, 20), (87, 21), (88, 22), (89, 23)], [(66, 0), (67, 1), (68, 2), (69, 3), (70, 4), (71, 5), (72, 6), (73, 7), (74, 8), (75, 9), (76, 10), (77, 11), (78, 12), (79, 13), (80, 14), (81, 15), (82, 16), (83, 17), (84, 18), (85, 19), (86, 20), (87, 21), (88, 22), (89, 23), (90, 24)], [(66, 0), (67, 1), (68, 2), (69, 3), (70, 4), (71, 5), (72, 6), (73, 7), (74, 8), (75, 9), (76, 10), (77, 11), (78, 12), (79, 13), (80, 14), (81, 15), (82, 16), (83, 17), (84, 18), (85, 19), (86, 20), (87, 21), (88, 22), (89, 23), (90, 24), (91, 25), (93, 27), (94, 28), (95, 29)], [(66, 0), (67, 1), (68, 2), (69, 3), (70, 4), (71, 5), (72, 6), (73, 7), (74, 8), (75, 9), (76, 10), (77, 11), (78, 12), (79, 13), (80, 14), (81, 15), (82, 16), (83, 17), (84, 18), (85, 19), (86, 20), (87, 21), (88, 22), (89, 23), (90, 24), (91, 25), (92, 26)], [(66, 0), (67, 1), (68, 2), (69, 3), (70, 4), (71, 5), (72, 6), (73, 7), (74, 8), (75, 9), (76, 10), (77, 11), (78, 12), (79, 13), (80, 14), (81, 15), (82, 16), (83, 17), (84, 18), (85, 19), (86, 20), (87, 21), (88, 22), (89, 23), (90, 24), (91, 25), (92, 26), (93, 27)], [(66, 0), (67, 1), (68, 2), (69, 3), (70, 4), (71, 5), (72, 6), (73, 7), (74, 8), (75, 9), (76, 10), (77, 11), (78, 12), (79, 13), (80, 14), (81, 15), (82, 16), (83, 17), (84, 18), (85, 19), (86, 20), (87, 21), (88, 22), (89, 23), (90, 24), (91, 25), (92, 26), (93, 27), (94, 28)], [(66, 0), (67, 1), (68, 2), (69, 3), (70, 4), (71, 5), (72, 6), (73, 7), (74, 8), (75, 9), (76, 10), (77, 11), (78, 12), (79, 13), (80, 14), (81, 15), (82, 16), (83, 17), (84, 18), (85, 19), (86, 20), (87, 21), (88, 22), (89, 23), (90, 24), (91, 25), (92, 26), (93, 27), (94, 28), (95, 29)], [(66, 0), (67, 1), (68, 2), (69, 3), (70, 4), (71, 5), (72, 6), (73, 7), (74, 8), (75, 9), (76, 10), (77, 11), (78, 12), (79, 13), (80, 14), (81, 15), (82, 16), (83, 17), (84, 18), (85, 19), (86, 20), (87, 21), (88, 22), (89, 23), (90, 24), (91, 25), (92, 26), (93, 27), (94, 28), (95, 29), (96, 30)], [(66, 0), (67, 1), (68, 2), (69, 3), (70, 4), (71, 5), (72, 6), (73, 7), (74, 8), (75, 9), (76, 10), (77, 11), (78, 12), (79, 13), (80, 14), (81, 15), (82, 16), (83, 17), (84, 18), (85, 19), (86, 20), (87, 21), (88, 22), (89, 23), (90, 24), (91, 25), (92, 26), (93, 27), (94, 28), (95, 29), (96, 30), (97, 31)], [(66, 0), (67, 1), (68, 2), (69, 3), (70, 4), (71, 5), (72, 6), (73, 7), (74, 8), (75, 9), (76, 10), (77, 11), (78, 12), (79, 13), (80, 14), (81, 15), (82, 16), (83, 17), (84, 18), (85, 19), (86, 20), (87, 21), (88, 22), (89, 23), (90, 24), (91, 25), (92, 26), (93, 27), (94, 28), (95, 29), (96, 30), (97, 31), (98, 32)], [(66, 0), (67, 1), (68, 2), (69, 3), (70, 4), (71, 5), (72, 6), (73, 7), (74, 8), (75, 9), (76, 10), (77, 11), (78, 12), (79, 13), (80, 14), (81, 15), (82, 16), (83, 17), (84, 18), (85, 19), (86, 20), (87, 21), (88, 22), (89, 23), (90, 24), (91, 25), (92, 26), (93, 27), (94, 28), (95, 29), (96, 30), (97, 31), (98, 32), (99, 33)], [(66, 0), (67, 1), (68, 2), (69, 3), (70, 4), (71, 5), (72, 6), (73, 7), (74, 8), (75, 9), (76, 10), (77, 11), (78, 12), (79, 13), (80, 14), (81, 15), (82, 16), (83, 17), (84, 18), (85, 19), (86, 20), (87, 21), (88, 22), (89, 23), (90, 24), (91, 25), (92, 26), (93, 27), (94, 28), (95, 29), (96, 30), (97, 31), (98, 32), (99, 33), (100, 34)], [(66, 0), (67, 1), (68, 2), (69, 3), (70, 4), (71, 5), (72, 6), (73, 7), (74, 8), (75, 9), (76, 10), (77, 11), (78, 12), (79, 13), (80, 14), (81, 15), (82, 16), (83, 17), (84, 18), (85, 19), (86, 20), (87, 21), (88, 22), (89, 23), (90, 24), (91, 25), (92, 26), (93, 27), (94, 28), (95, 29), (96, 30), (97, 31), (98, 32), (99, 33), (100, 34), (101, 35)], [(66, 0), (67, 1), (68, 2), (69, 3), (70, 4), (71, 5), (72, 6), (73, 7), (74, 8), (75, 9), (76, 10), (77, 11), (78, 12), (79, 13), (80, 14), (81, 15), (82, 16), (83, 17), (84, 18), (85, 19), (86, 20), (87, 21), (88, 22), (89, 23), (90, 24), (91, 25), (92, 26), (93, 27), (94, 28), (95, 29), (96, 30), (97, 31), (98, 32), (99, 33), (100, 34), (101, 35), (102, 36)], [(66, 0), (67, 1), (68, 2), (69, 3), (70, 4), (71, 5), (72, 6), (73, 7), (74, 8), (75, 9), (76, 10), (77, 11), (78, 12), (79, 13), (80, 14), (81, 15), (82, 16), (83, 17), (84, 18), (85, 19), (86, 20), (87, 21), (88, 22), (89, 23), (90, 24), (91, 25), (92, 26), (93, 27), (94, 28), (95, 29), (96, 30), (97, 31), (98, 32), (99, 33), (100, 34), (101, 35), (102, 36), (103, 37)]] [(66, 0), (67, 1), (68, 2), (69, 3), (70, 4), (71, 5), (72, 6), (73, 7), (74, 8), (75, 9), (76, 10), (77, 11), (78, 12), (79, 13), (80, 14), (81, 15), (82, 16), (83, 17), (84, 18), (85, 19), (86, 20), (87, 21), (88, 22), (89, 23), (90, 24), (91, 25), (92, 26), (93, 27), (94, 28), (95, 29), (96, 30), (97, 31), (98, 32), (99, 33), (100, 34), (101, 35), (102, 36), (103, 37), (0, 38)]
    [Is (.slice (some ⟨g8, 0, none⟩) 17 17), SsX 2 [⟨#[97]⟩, ⟨#[98]⟩], Is (.agg #[.int .i64 1, .int .i64 0, .int .u64 0, .string ⟨#[]⟩, .slice none 0 0, .slice none 0 0]), Is (.agg #[.int .i64 3, .int .i64 1, .int .u64 0, .string ⟨#[]⟩, .slice none 0 0, .slice none 0 0]), RnX 2 [(.mk 1 0 0 ⟨#[]⟩ [] []), (.mk 3 1 0 ⟨#[]⟩ [] [])], Nd (.mk 17 0 0 ⟨#[]⟩ [⟨#[97]⟩, ⟨#[98]⟩] [(.mk 1 0 0 ⟨#[]⟩ [] []), (.mk 3 1 0 ⟨#[]⟩ [] [])]), Is (.bool true), Is (.bool true), Is (.slice (some ⟨g8, 0, none⟩) 17 17), SsX 2 [⟨#[98]⟩, ⟨#[97]⟩], Is (.agg #[.int .i64 3, .int .i64 1, .int .u64 0, .string ⟨#[]⟩, .slice none 0 0, .slice none 0 0]), Is (.agg #[.int .i64 1, .int .i64 0, .int .u64 0, .string ⟨#[]⟩, .slice none 0 0, .slice none 0 0]), RnX 2 [(.mk 3 1 0 ⟨#[]⟩ [] []), (.mk 1 0 0 ⟨#[]⟩ [] [])], Nd (.mk 17 0 0 ⟨#[]⟩ [⟨#[98]⟩, ⟨#[97]⟩] [(.mk 3 1 0 ⟨#[]⟩ [] []), (.mk 1 0 0 ⟨#[]⟩ [] [])]), Is (.bool false), Is (.bool true), Is (.bool true), Is (.bool true), Is (.slice (some ⟨g8 + 1, 0, none⟩) 7 7), Is (.agg #[.int .i64 10, .int .i64 0, .int .u64 0, .string ⟨#[]⟩, .slice none 0 0, .slice none 0 0]), RnX 1 [(.mk 10 0 0 ⟨#[]⟩ [] [])], Nd (.mk 10 0 0 ⟨#[]⟩ [] [(.mk 10 0 0 ⟨#[]⟩ [] [])]), Is (.bool false), Is (.bool true), Is (.bool true), Is (.bool true), Is (.slice (some ⟨g8 + 1, 0, none⟩) 7 7), Is (.agg #[.int .i64 1, .int .i64 0, .int .u64 0, .string ⟨#[]⟩, .slice none 0 0, .slice none 0 0]), RnX 1 [(.mk 1 0 0 ⟨#[]⟩ [] [])], Nd (.mk 10 0 0 ⟨#[]⟩ [] [(.mk 1 0 0 ⟨#[]⟩ [] [])]), Is (.bool false), Is (.bool true), Is (.bool true), Is (.bool true), Is (.agg #[.int .i64 1, .int .i64 0, .int .u64 0, .string ⟨#[]⟩, .slice none 0 0, .slice none 0 0]), Is (.bool false), Is (.bool true), Is (.bool true), Is (.bool true)]
    (by kernel_rfl) Grew.trans Grew.refl (Grew.refl _).drew (by kernel_rfl) ⟨is_st, SsX.st _ _, is_st, is_st, RnX.st _ _, Nd.st _, is_st, is_st, is_st, SsX.st _ _, is_st, is_st, RnX.st _ _, Nd.st _, is_st, is_st, is_st, is_st, is_st, is_st, RnX.st _ _, Nd.st _, is_st, is_st, is_st, is_st, is_st, is_st, RnX.st _ _, Nd.st _, is_st, is_st, is_st, is_st, is_st, is_st, is_st, is_st, is_st, trivial⟩ ?_ rfl ?_
  rotate_left
  · intro y w2 hG hF
    simp only [factsH, Is, and_true, Nat.reduceAdd] at hF
    have hlast := hF.2.2.2.2.2.2.2.2.2.2.2.2.2.2.2.2.2.2.2.2.2.2.2.2.2.2.2.2.2.2.2.2.2.2.2.2.2.2
    clear hF
    simp only [fillL, Act.put, List.setIfInBounds_toArray, List.set_cons_zero, List.set_cons_succ, List.getD_cons_zero, List.getD_cons_succ, hlast]
    replace HG := Lib.hid (HG.out.trans hG)
    clear hG hlast
    go_wp2_with fail
    go_ret
    exact ⟨rfl, HG.out⟩
  refine ⟨?_, ?_⟩
  · intro y w2 hG hD K hK
    generalize hA : fillL y _ _ = A at hK ⊢
    simp only [fillL, Act.put, List.setIfInBounds_toArray, List.set_cons_zero, List.set_cons_succ, List.getD_cons_zero, List.getD_cons_succ, Is] at hA
    subst hA
    refine ite_yes (by rfl) ?_
    go_simp
    exact hK _ _ _ rfl (Grew.refl _) rfl
  refine ⟨?_, ?_⟩
  · intro y w2 hG hD K hK
    generalize hA : fillL y _ _ = A at hK ⊢
    simp only [fillL, Act.put, List.setIfInBounds_toArray, List.set_cons_zero, List.set_cons_succ, List.getD_cons_zero, List.getD_cons_succ, Is] at hA
    subst hA
    refine ite_yes (by rfl) ?_
    go_simp
    have hbb := built_strs w2 [⟨#[97]⟩, ⟨#[98]⟩] (lenoks _ (by decide)) (by decide)
    exact hK _ _ _ rfl ((Grew.refl _).alloc _) ⟨⟨_, rfl⟩, hbb⟩
  refine ⟨?_, ?_⟩
  · intro y w2 hG hD K hK
    have da0 := hG.cell a0
    have da1 := hG.cell a1
    have da2 := hG.cell a2
    have da3 := hG.cell a3
    have da4 := hG.cell a4
    have da5 := hG.cell a5
    generalize hA : fillL y _ _ = A at hK ⊢
    simp only [fillL, Act.put, List.setIfInBounds_toArray, List.set_cons_zero, List.set_cons_succ, List.getD_cons_zero, List.getD_cons_succ, Is] at hA
    subst hA
    refine ite_yes (by rfl) ?_
    go_simp
    exact hK _ _ _ rfl (Grew.refl _) rfl
  refine ⟨?_, ?_⟩
  · intro y w2 hG hD K hK
    generalize hA : fillL y _ _ = A at hK ⊢
    simp only [fillL, Act.put, List.setIfInBounds_toArray, List.set_cons_zero, List.set_cons_succ, List.getD_cons_zero, List.getD_cons_succ, Is] at hA
    subst hA
    refine ite_yes (by rfl) ?_
    go_simp
    refine (num27_any 1 _).mono ?_
    rintro r w3 ⟨rfl, hg3⟩
    exact hK _ _ _ rfl hg3 rfl
  refine ⟨?_, ?_⟩
  · intro y w2 hG hD K hK
    simp only [depsH, List.getD_cons_zero, List.getD_cons_succ, Is, and_true] at hD
    have h2 := hD.1
    have h3 := hD.2
    clear hD
    generalize hA : fillL y _ _ = A at hK ⊢
    simp only [fillL, Act.put, List.setIfInBounds_toArray, List.set_cons_zero, List.set_cons_succ, List.getD_cons_zero, List.getD_cons_succ, Is] at hA
    subst hA
    simp only [h2, h3] at hK ⊢
    clear h2 h3
    refine ite_yes (by rfl) ?_
    go_simp
    have hbb := built_nodes w2 [(.mk 1 0 0 ⟨#[]⟩ [] []), (.mk 3 1 0 ⟨#[]⟩ [] [])] [.agg #[.int .i64 1, .int .i64 0, .int .u64 0, .string ⟨#[]⟩, .slice none 0 0, .slice none 0 0], .agg #[.int .i64 3, .int .i64 1, .int .u64 0, .string ⟨#[]⟩, .slice none 0 0, .slice none 0 0]] (by intro x hx; simp only [List.mem_cons, List.not_mem_nil, or_false] at hx; rcases hx with rfl | rfl <;> exact ⟨_, _, _, _, _, _, _, _, _, _, rfl⟩) ⟨_, _, rfl, (leaf_nd 1 0 0 ⟨#[]⟩ (by unfold i64ok u64ok lenok; decide) _), ⟨_, _, rfl, (leaf_nd 3 1 0 ⟨#[]⟩ (by unfold i64ok u64ok lenok; decide) _), rfl⟩⟩ (by simp)
    exact hK _ _ _ rfl ((Grew.refl _).alloc _) ⟨⟨_, rfl⟩, hbb⟩
  refine ⟨?_, ?_⟩
  · intro y w2 hG hD K hK
    simp only [depsH, List.getD_cons_zero, List.getD_cons_succ, Is, and_true] at hD
    have h1 := hD.1
    have h2 := hD.2.1
    have h3 := hD.2.2.1
    have h4 := hD.2.2.2
    clear hD
    generalize hA : fillL y _ _ = A at hK ⊢
    simp only [fillL, Act.put, List.setIfInBounds_toArray, List.set_cons_zero, List.set_cons_succ, List.getD_cons_zero, List.getD_cons_succ, Is] at hA
    subst hA
    simp only [h2, h3] at hK ⊢
    clear h2 h3
    refine ite_yes (by rfl) ?_
    obtain ⟨⟨gq, eq⟩, hq⟩ := h1
    obtain ⟨⟨gr, er⟩, hr⟩ := h4
    rw [eq] at hq
    rw [er] at hr
    simp only [eq, er] at hK ⊢
    go_simp
    refine (table27_any _ _ _ _ _ _ _).mono ?_
    rintro r w3 ⟨rfl, hg3⟩
    exact hK _ _ _ rfl hg3 (table_nd (Ss.st _ _ _ _ hg3 hq) (Rn.st _ _ _ _ hg3 hr))
  refine ⟨?_, ?_⟩
  · intro y w2 hG hD K hK
    simp only [depsH, List.getD_cons_zero, List.getD_cons_succ, Is, and_true] at hD
    have h0 := hD.1
    have h1 := hD.2.1
    have h2 := hD.2.2.1
    have h3 := hD.2.2.2.1
    have h4 := hD.2.2.2.2.1
    have h5 := hD.2.2.2.2.2
    clear hD
    generalize hA : fillL y _ _ = A at hK ⊢
    simp only [fillL, Act.put, List.setIfInBounds_toArray, List.set_cons_zero, List.set_cons_succ, List.getD_cons_zero, List.getD_cons_succ, Is] at hA
    subst hA
    simp only [h0, h2, h3] at hK ⊢
    clear h0 h2 h3
    refine ite_yes (by rfl) ?_
    go_simp
    have hh := Holds_any [97, 0, 98, 0, 2, 5, 4, 2, 1, 2, 0, 1, 0, 4, 4, 36, 1] _ (.mk 17 0 0 ⟨#[]⟩ [⟨#[97]⟩, ⟨#[98]⟩] [(.mk 1 0 0 ⟨#[]⟩ [] []), (.mk 3 1 0 ⟨#[]⟩ [] [])]) (okS_mk (by decide) (kids_cons (okS_mk (by decide) kids_nil) (kids_cons (okS_mk (by decide) kids_nil) kids_nil))) _ w2 (Dc.st _ _ _ _ hG d6) h5
    rw [w27_i] at hh
    refine hh.mono ?_
    rintro r w3 ⟨rfl, hg3⟩
    exact hK _ _ _ rfl hg3 rfl
  refine ⟨?_, ?_⟩
  · intro y w2 hG hD K hK
    simp only [depsH, List.getD_cons_zero, List.getD_cons_succ, Is, and_true] at hD
    have h0 := hD.1
    have h1 := hD.2.1
    have h2 := hD.2.2.1
    have h3 := hD.2.2.2.1
    have h4 := hD.2.2.2.2.1
    have h5 := hD.2.2.2.2.2.1
    have h6 := hD.2.2.2.2.2.2
    clear hD
    generalize hA : fillL y _ _ = A at hK ⊢
    simp only [fillL, Act.put, List.setIfInBounds_toArray, List.set_cons_zero, List.set_cons_succ, List.getD_cons_zero, List.getD_cons_succ, Is] at hA
    subst hA
    simp only [h0, h2, h3, h6] at hK ⊢
    clear h0 h2 h3 h6
    refine ite_yes (by rfl) ?_
    go_simp
    exact hK _ _ _ rfl (Grew.refl _) rfl
  refine ⟨?_, ?_⟩
  · intro y w2 hG hD K hK
    simp only [depsH, List.getD_cons_zero, List.getD_cons_succ, Is, and_true] at hD
    have h0 := hD.1
    have h1 := hD.2.1
    have h2 := hD.2.2.1
    have h3 := hD.2.2.2.1
    have h4 := hD.2.2.2.2.1
    have h5 := hD.2.2.2.2.2.1
    have h6 := hD.2.2.2.2.2.2.1
    have h7 := hD.2.2.2.2.2.2.2
    clear hD
    generalize hA : fillL y _ _ = A at hK ⊢
    simp only [fillL, Act.put, List.setIfInBounds_toArray, List.set_cons_zero, List.set_cons_succ, List.getD_cons_zero, List.getD_cons_succ, Is] at hA
    subst hA
    simp only [h0, h2, h3, h6, h7] at hK ⊢
    clear h0 h2 h3 h6 h7
    refine ite_yes (by rfl) ?_
    go_simp
    exact hK _ _ _ rfl (Grew.refl _) rfl
  refine ⟨?_, ?_⟩
  · intro y w2 hG hD K hK
    simp only [depsH, List.getD_cons_zero, List.getD_cons_succ, Is, and_true] at hD
    have h0 := hD.1
    have h1 := hD.2.1
    have h2 := hD.2.2.1
    have h3 := hD.2.2.2.1
    have h4 := hD.2.2.2.2.1
    have h5 := hD.2.2.2.2.2.1
    have h6 := hD.2.2.2.2.2.2.1
    have h7 := hD.2.2.2.2.2.2.2
    clear hD
    generalize hA : fillL y _ _ = A at hK ⊢
    simp only [fillL, Act.put, List.setIfInBounds_toArray, List.set_cons_zero, List.set_cons_succ, List.getD_cons_zero, List.getD_cons_succ, Is] at hA
    subst hA
    simp only [h0, h2, h3, h6, h7] at hK ⊢
    clear h0 h2 h3 h6 h7
    refine ite_yes (by rfl) ?_
    go_simp
    have hbb := built_strs w2 [⟨#[98]⟩, ⟨#[97]⟩] (lenoks _ (by decide)) (by decide)
    exact hK _ _ _ rfl ((Grew.refl _).alloc _) ⟨⟨_, rfl⟩, hbb⟩
  refine ⟨?_, ?_⟩
  · intro y w2 hG hD K hK
    simp only [depsH, List.getD_cons_zero, List.getD_cons_succ, Is, and_true] at hD
    have h0 := hD.1
    have h1 := hD.2.1
    have h2 := hD.2.2.1
    have h3 := hD.2.2.2.1
    have h4 := hD.2.2.2.2.1
    have h5 := hD.2.2.2.2.2.1
    have h6 := hD.2.2.2.2.2.2.1
    have h7 := hD.2.2.2.2.2.2.2
    clear hD
    generalize hA : fillL y _ _ = A at hK ⊢
    simp only [fillL, Act.put, List.setIfInBounds_toArray, List.set_cons_zero, List.set_cons_succ, List.getD_cons_zero, List.getD_cons_succ, Is] at hA
    subst hA
    simp only [h0, h2, h3, h6, h7] at hK ⊢
    clear h0 h2 h3 h6 h7
    refine ite_yes (by rfl) ?_
    go_simp
    refine (num27_any 1 _).mono ?_
    rintro r w3 ⟨rfl, hg3⟩
    exact hK _ _ _ rfl hg3 rfl
  refine ⟨?_, ?_⟩
  · intro y w2 hG hD K hK
    simp only [depsH, List.getD_cons_zero, List.getD_cons_succ, Is, and_true] at hD
    have h0 := hD.1
    have h1 := hD.2.1
    have h2 := hD.2.2.1
    have h3 := hD.2.2.2.1
    have h4 := hD.2.2.2.2.1
    have h5 := hD.2.2.2.2.2.1
    have h6 := hD.2.2.2.2.2.2.1
    have h7 := hD.2.2.2.2.2.2.2
    clear hD
    have da0 := hG.cell a0
    have da1 := hG.cell a1
    have da2 := hG.cell a2
    have da3 := hG.cell a3
    have da4 := hG.cell a4
    have da5 := hG.cell a5
    generalize hA : fillL y _ _ = A at hK ⊢
    simp only [fillL, Act.put, List.setIfInBounds_toArray, List.set_cons_zero, List.set_cons_succ, List.getD_cons_zero, List.getD_cons_succ, Is] at hA
    subst hA
    simp only [h0, h2, h3, h6, h7] at hK ⊢
    clear h0 h2 h3 h6 h7
    refine ite_yes (by rfl) ?_
    go_simp
    exact hK _ _ _ rfl (Grew.refl _) rfl
  refine ⟨?_, ?_⟩
  · intro y w2 hG hD K hK
    simp only [depsH, List.getD_cons_zero, List.getD_cons_succ, Is, and_true] at hD
    have h0 := hD.1
    have h1 := hD.2.1
    have h2 := hD.2.2.1
    have h3 := hD.2.2.2.1
    have h4 := hD.2.2.2.2.1
    have h5 := hD.2.2.2.2.2.1
    have h6 := hD.2.2.2.2.2.2.1
    have h7 := hD.2.2.2.2.2.2.2.1
    have h10 := hD.2.2.2.2.2.2.2.2.1
    have h11 := hD.2.2.2.2.2.2.2.2.2
    clear hD
    generalize hA : fillL y _ _ = A at hK ⊢
    simp only [fillL, Act.put, List.setIfInBounds_toArray, List.set_cons_zero, List.set_cons_succ, List.getD_cons_zero, List.getD_cons_succ, Is] at hA
    subst hA
    simp only [h0, h2, h3, h6, h7, h10, h11] at hK ⊢
    clear h0 h2 h3 h6 h7 h10 h11
    refine ite_yes (by rfl) ?_
    go_simp
    have hbb := built_nodes w2 [(.mk 3 1 0 ⟨#[]⟩ [] []), (.mk 1 0 0 ⟨#[]⟩ [] [])] [.agg #[.int .i64 3, .int .i64 1, .int .u64 0, .string ⟨#[]⟩, .slice none 0 0, .slice none 0 0], .agg #[.int .i64 1, .int .i64 0, .int .u64 0, .string ⟨#[]⟩, .slice none 0 0, .slice none 0 0]] (by intro x hx; simp only [List.mem_cons, List.not_mem_nil, or_false] at hx; rcases hx with rfl | rfl <;> exact ⟨_, _, _, _, _, _, _, _, _, _, rfl⟩) ⟨_, _, rfl, (leaf_nd 3 1 0 ⟨#[]⟩ (by unfold i64ok u64ok lenok; decide) _), ⟨_, _, rfl, (leaf_nd 1 0 0 ⟨#[]⟩ (by unfold i64ok u64ok lenok; decide) _), rfl⟩⟩ (by simp)
    exact hK _ _ _ rfl ((Grew.refl _).alloc _) ⟨⟨_, rfl⟩, hbb⟩
  refine ⟨?_, ?_⟩
  · intro y w2 hG hD K hK
    simp only [depsH, List.getD_cons_zero, List.getD_cons_succ, Is, and_true] at hD
    have h0 := hD.1
    have h1 := hD.2.1
    have h2 := hD.2.2.1
    have h3 := hD.2.2.2.1
    have h4 := hD.2.2.2.2.1
    have h5 := hD.2.2.2.2.2.1
    have h6 := hD.2.2.2.2.2.2.1
    have h7 := hD.2.2.2.2.2.2.2.1
    have h9 := hD.2.2.2.2.2.2.2.2.1
    have h10 := hD.2.2.2.2.2.2.2.2.2.1
    have h11 := hD.2.2.2.2.2.2.2.2.2.2.1
    have h12 := hD.2.2.2.2.2.2.2.2.2.2.2
    clear hD
    generalize hA : fillL y _ _ = A at hK ⊢
    simp only [fillL, Act.put, List.setIfInBounds_toArray, List.set_cons_zero, List.set_cons_succ, List.getD_cons_zero, List.getD_cons_succ, Is] at hA
    subst hA
    simp only [h0, h2, h3, h6, h7, h10, h11] at hK ⊢
    clear h0 h2 h3 h6 h7 h10 h11
    refine ite_yes (by rfl) ?_
    obtain ⟨⟨gq, eq⟩, hq⟩ := h9
    obtain ⟨⟨gr, er⟩, hr⟩ := h12
    rw [eq] at hq
    rw [er] at hr
    simp only [eq, er] at hK ⊢
    go_simp
    refine (table27_any _ _ _ _ _ _ _).mono ?_
    rintro r w3 ⟨rfl, hg3⟩
    exact hK _ _ _ rfl hg3 (table_nd (Ss.st _ _ _ _ hg3 hq) (Rn.st _ _ _ _ hg3 hr))
  refine ⟨?_, ?_⟩
  · intro y w2 hG hD K hK
    simp only [depsH, List.getD_cons_zero, List.getD_cons_succ, Is, and_true] at hD
    have h0 := hD.1
    have h1 := hD.2.1
    have h2 := hD.2.2.1
    have h3 := hD.2.2.2.1
    have h4 := hD.2.2.2.2.1
    have h5 := hD.2.2.2.2.2.1
    have h6 := hD.2.2.2.2.2.2.1
    have h7 := hD.2.2.2.2.2.2.2.1
    have h8 := hD.2.2.2.2.2.2.2.2.1
    have h9 := hD.2.2.2.2.2.2.2.2.2.1
    have h10 := hD.2.2.2.2.2.2.2.2.2.2.1
    have h11 := hD.2.2.2.2.2.2.2.2.2.2.2.1
    have h12 := hD.2.2.2.2.2.2.2.2.2.2.2.2.1
    have h13 := hD.2.2.2.2.2.2.2.2.2.2.2.2.2
    clear hD
    generalize hA : fillL y _ _ = A at hK ⊢
    simp only [fillL, Act.put, List.setIfInBounds_toArray, List.set_cons_zero, List.set_cons_succ, List.getD_cons_zero, List.getD_cons_succ, Is] at hA
    subst hA
    simp only [h0, h2, h3, h6, h7, h8, h10, h11] at hK ⊢
    clear h0 h2 h3 h6 h7 h8 h10 h11
    refine ite_yes (by rfl) ?_
    go_simp
    have hh := Holds_any [97, 0, 98, 0, 2, 5, 4, 2, 1, 2, 0, 1, 0, 4, 4, 36, 1] _ (.mk 17 0 0 ⟨#[]⟩ [⟨#[98]⟩, ⟨#[97]⟩] [(.mk 3 1 0 ⟨#[]⟩ [] []), (.mk 1 0 0 ⟨#[]⟩ [] [])]) (okS_mk (by decide) (kids_cons (okS_mk (by decide) kids_nil) (kids_cons (okS_mk (by decide) kids_nil) kids_nil))) _ w2 (Dc.st _ _ _ _ hG d6) h13
    rw [w27_j] at hh
    refine hh.mono ?_
    rintro r w3 ⟨rfl, hg3⟩
    exact hK _ _ _ rfl hg3 rfl
  refine ⟨?_, ?_⟩
  · intro y w2 hG hD K hK
    simp only [depsH, List.getD_cons_zero, List.getD_cons_succ, Is, and_true] at hD
    have h0 := hD.1
    have h1 := hD.2.1
    have h2 := hD.2.2.1
    have h3 := hD.2.2.2.1
    have h4 := hD.2.2.2.2.1
    have h5 := hD.2.2.2.2.2.1
    have h6 := hD.2.2.2.2.2.2.1
    have h7 := hD.2.2.2.2.2.2.2.1
    have h8 := hD.2.2.2.2.2.2.2.2.1
    have h9 := hD.2.2.2.2.2.2.2.2.2.1
    have h10 := hD.2.2.2.2.2.2.2.2.2.2.1
    have h11 := hD.2.2.2.2.2.2.2.2.2.2.2.1
    have h12 := hD.2.2.2.2.2.2.2.2.2.2.2.2.1
    have h13 := hD.2.2.2.2.2.2.2.2.2.2.2.2.2.1
    have h14 := hD.2.2.2.2.2.2.2.2.2.2.2.2.2.2
    clear hD
    generalize hA : fillL y _ _ = A at hK ⊢
    simp only [fillL, Act.put, List.setIfInBounds_toArray, List.set_cons_zero, List.set_cons_succ, List.getD_cons_zero, List.getD_cons_succ, Is] at hA
    subst hA
    simp only [h0, h2, h3, h6, h7, h8, h10, h11, h14] at hK ⊢
    clear h0 h2 h3 h6 h7 h8 h10 h11 h14
    refine ite_yes (by rfl) ?_
    go_simp
    exact hK _ _ _ rfl (Grew.refl _) rfl
  refine ⟨?_, ?_⟩
  · intro y w2 hG hD K hK
    simp only [depsH, List.getD_cons_zero, List.getD_cons_succ, Is, and_true] at hD
    have h0 := hD.1
    have h1 := hD.2.1
    have h2 := hD.2.2.1
    have h3 := hD.2.2.2.1
    have h4 := hD.2.2.2.2.1
    have h5 := hD.2.2.2.2.2.1
    have h6 := hD.2.2.2.2.2.2.1
    have h7 := hD.2.2.2.2.2.2.2.1
    have h8 := hD.2.2.2.2.2.2.2.2.1
    have h9 := hD.2.2.2.2.2.2.2.2.2.1
    have h10 := hD.2.2.2.2.2.2.2.2.2.2.1
    have h11 := hD.2.2.2.2.2.2.2.2.2.2.2.1
    have h12 := hD.2.2.2.2.2.2.2.2.2.2.2.2.1
    have h13 := hD.2.2.2.2.2.2.2.2.2.2.2.2.2.1
    have h14 := hD.2.2.2.2.2.2.2.2.2.2.2.2.2.2.1
    have h15 := hD.2.2.2.2.2.2.2.2.2.2.2.2.2.2.2
    clear hD
    generalize hA : fillL y _ _ = A at hK ⊢
    simp only [fillL, Act.put, List.setIfInBounds_toArray, List.set_cons_zero, List.set_cons_succ, List.getD_cons_zero, List.getD_cons_succ, Is] at hA
    subst hA
    simp only [h0, h2, h3, h6, h7, h8, h10, h11, h14, h15] at hK ⊢
    clear h0 h2 h3 h6 h7 h8 h10 h11 h14 h15
    refine ite_yes (by rfl) ?_
    go_simp
    exact hK _ _ _ rfl (Grew.refl _) rfl
  refine ⟨?_, ?_⟩
  · intro y w2 hG hD K hK
    simp only [depsH, List.getD_cons_zero, List.getD_cons_succ, Is, and_true] at hD
    have h0 := hD.1
    have h1 := hD.2.1
    have h2 := hD.2.2.1
    have h3 := hD.2.2.2.1
    have h4 := hD.2.2.2.2.1
    have h5 := hD.2.2.2.2.2.1
    have h6 := hD.2.2.2.2.2.2.1
    have h7 := hD.2.2.2.2.2.2.2.1
    have h8 := hD.2.2.2.2.2.2.2.2.1
    have h9 := hD.2.2.2.2.2.2.2.2.2.1
    have h10 := hD.2.2.2.2.2.2.2.2.2.2.1
    have h11 := hD.2.2.2.2.2.2.2.2.2.2.2.1
    have h12 := hD.2.2.2.2.2.2.2.2.2.2.2.2.1
    have h13 := hD.2.2.2.2.2.2.2.2.2.2.2.2.2.1
    have h14 := hD.2.2.2.2.2.2.2.2.2.2.2.2.2.2.1
    have h15 := hD.2.2.2.2.2.2.2.2.2.2.2.2.2.2.2.1
    have h16 := hD.2.2.2.2.2.2.2.2.2.2.2.2.2.2.2.2
    clear hD
    generalize hA : fillL y _ _ = A at hK ⊢
    simp only [fillL, Act.put, List.setIfInBounds_toArray, List.set_cons_zero, List.set_cons_succ, List.getD_cons_zero, List.getD_cons_succ, Is] at hA
    subst hA
    simp only [h0, h2, h3, h6, h7, h8, h10, h11, h14, h15, h16] at hK ⊢
    clear h0 h2 h3 h6 h7 h8 h10 h11 h14 h15 h16
    refine ite_yes (by rfl) ?_
    go_simp
    exact hK _ _ _ rfl (Grew.refl _) rfl
  refine ⟨?_, ?_⟩
  · intro y w2 hG hD K hK
    simp only [depsH, List.getD_cons_zero, List.getD_cons_succ, Is, and_true] at hD
    have h0 := hD.1
    have h1 := hD.2.1
    have h2 := hD.2.2.1
    have h3 := hD.2.2.2.1
    have h4 := hD.2.2.2.2.1
    have h5 := hD.2.2.2.2.2.1
    have h6 := hD.2.2.2.2.2.2.1
    have h7 := hD.2.2.2.2.2.2.2.1
    have h8 := hD.2.2.2.2.2.2.2.2.1
    have h9 := hD.2.2.2.2.2.2.2.2.2.1
    have h10 := hD.2.2.2.2.2.2.2.2.2.2.1
    have h11 := hD.2.2.2.2.2.2.2.2.2.2.2.1
    have h12 := hD.2.2.2.2.2.2.2.2.2.2.2.2.1
    have h13 := hD.2.2.2.2.2.2.2.2.2.2.2.2.2.1
    have h14 := hD.2.2.2.2.2.2.2.2.2.2.2.2.2.2.1
    have h15 := hD.2.2.2.2.2.2.2.2.2.2.2.2.2.2.2.1
    have h16 := hD.2.2.2.2.2.2.2.2.2.2.2.2.2.2.2.2.1
    have h17 := hD.2.2.2.2.2.2.2.2.2.2.2.2.2.2.2.2.2
    clear hD
    generalize hA : fillL y _ _ = A at hK ⊢
    simp only [fillL, Act.put, List.setIfInBounds_toArray, List.set_cons_zero, List.set_cons_succ, List.getD_cons_zero, List.getD_cons_succ, Is] at hA
    subst hA
    simp only [h0, h2, h3, h6, h7, h8, h10, h11, h14, h15, h16, h17] at hK ⊢
    clear h0 h2 h3 h6 h7 h8 h10 h11 h14 h15 h16 h17
    refine ite_yes (by rfl) ?_
    go_simp
    exact hK _ _ _ rfl (Grew.refl _) rfl
  refine ⟨?_, ?_⟩
  · intro y w2 hG hD K hK
    simp only [depsH, List.getD_cons_zero, List.getD_cons_succ, Is, and_true] at hD
    have h0 := hD.1
    have h1 := hD.2.1
    have h2 := hD.2.2.1
    have h3 := hD.2.2.2.1
    have h4 := hD.2.2.2.2.1
    have h5 := hD.2.2.2.2.2.1
    have h6 := hD.2.2.2.2.2.2.1
    have h7 := hD.2.2.2.2.2.2.2.1
    have h8 := hD.2.2.2.2.2.2.2.2.1
    have h9 := hD.2.2.2.2.2.2.2.2.2.1
    have h10 := hD.2.2.2.2.2.2.2.2.2.2.1
    have h11 := hD.2.2.2.2.2.2.2.2.2.2.2.1
    have h12 := hD.2.2.2.2.2.2.2.2.2.2.2.2.1
    have h13 := hD.2.2.2.2.2.2.2.2.2.2.2.2.2.1
    have h14 := hD.2.2.2.2.2.2.2.2.2.2.2.2.2.2.1
    have h15 := hD.2.2.2.2.2.2.2.2.2.2.2.2.2.2.2.1
    have h16 := hD.2.2.2.2.2.2.2.2.2.2.2.2.2.2.2.2.1
    have h17 := hD.2.2.2.2.2.2.2.2.2.2.2.2.2.2.2.2.2
    clear hD
    generalize hA : fillL y _ _ = A at hK ⊢
    simp only [fillL, Act.put, List.setIfInBounds_toArray, List.set_cons_zero, List.set_cons_succ, List.getD_cons_zero, List.getD_cons_succ, Is] at hA
    subst hA
    simp only [h0, h2, h3, h6, h7, h8, h10, h11, h14, h15, h16, h17] at hK ⊢
    clear h0 h2 h3 h6 h7 h8 h10 h11 h14 h15 h16 h17
    refine ite_yes (by rfl) ?_
    go_simp
    refine (list27_any 10 none 0 0 _).mono ?_
    rintro r w3 ⟨rfl, hg3⟩
    exact hK _ _ _ rfl hg3 rfl
  refine ⟨?_, ?_⟩
  · intro y w2 hG hD K hK
    simp only [depsH, List.getD_cons_zero, List.getD_cons_succ, Is, and_true] at hD
    have h0 := hD.1
    have h1 := hD.2.1
    have h2 := hD.2.2.1
    have h3 := hD.2.2.2.1
    have h4 := hD.2.2.2.2.1
    have h5 := hD.2.2.2.2.2.1
    have h6 := hD.2.2.2.2.2.2.1
    have h7 := hD.2.2.2.2.2.2.2.1
    have h8 := hD.2.2.2.2.2.2.2.2.1
    have h9 := hD.2.2.2.2.2.2.2.2.2.1
    have h10 := hD.2.2.2.2.2.2.2.2.2.2.1
    have h11 := hD.2.2.2.2.2.2.2.2.2.2.2.1
    have h12 := hD.2.2.2.2.2.2.2.2.2.2.2.2.1
    have h13 := hD.2.2.2.2.2.2.2.2.2.2.2.2.2.1
    have h14 := hD.2.2.2.2.2.2.2.2.2.2.2.2.2.2.1
    have h15 := hD.2.2.2.2.2.2.2.2.2.2.2.2.2.2.2.1
    have h16 := hD.2.2.2.2.2.2.2.2.2.2.2.2.2.2.2.2.1
    have h17 := hD.2.2.2.2.2.2.2.2.2.2.2.2.2.2.2.2.2.1
    have h19 := hD.2.2.2.2.2.2.2.2.2.2.2.2.2.2.2.2.2.2
    clear hD
    generalize hA : fillL y _ _ = A at hK ⊢
    simp only [fillL, Act.put, List.setIfInBounds_toArray, List.set_cons_zero, List.set_cons_succ, List.getD_cons_zero, List.getD_cons_succ, Is] at hA
    subst hA
    simp only [h0, h2, h3, h6, h7, h8, h10, h11, h14, h15, h16, h17, h19] at hK ⊢
    clear h0 h2 h3 h6 h7 h8 h10 h11 h14 h15 h16 h17 h19
    refine ite_yes (by rfl) ?_
    go_simp
    have hbb := built_nodes w2 [(.mk 10 0 0 ⟨#[]⟩ [] [])] [.agg #[.int .i64 10, .int .i64 0, .int .u64 0, .string ⟨#[]⟩, .slice none 0 0, .slice none 0 0]] (by intro x hx; simp only [List.mem_cons, List.not_mem_nil, or_false] at hx; subst hx; exact ⟨_, _, _, _, _, _, _, _, _, _, rfl⟩) ⟨_, _, rfl, (leaf_nd 10 0 0 ⟨#[]⟩ (by unfold i64ok u64ok lenok; decide) _), rfl⟩ (by simp)
    exact hK _ _ _ rfl ((Grew.refl _).alloc _) ⟨⟨_, rfl⟩, hbb⟩
  refine ⟨?_, ?_⟩
  · intro y w2 hG hD K hK
    simp only [depsH, List.getD_cons_zero, List.getD_cons_succ, Is, and_true] at hD
    have h0 := hD.1
    have h1 := hD.2.1
    have h2 := hD.2.2.1
    have h3 := hD.2.2.2.1
    have h4 := hD.2.2.2.2.1
    have h5 := hD.2.2.2.2.2.1
    have h6 := hD.2.2.2.2.2.2.1
    have h7 := hD.2.2.2.2.2.2.2.1
    have h8 := hD.2.2.2.2.2.2.2.2.1
    have h9 := hD.2.2.2.2.2.2.2.2.2.1
    have h10 := hD.2.2.2.2.2.2.2.2.2.2.1
    have h11 := hD.2.2.2.2.2.2.2.2.2.2.2.1
    have h12 := hD.2.2.2.2.2.2.2.2.2.2.2.2.1
    have h13 := hD.2.2.2.2.2.2.2.2.2.2.2.2.2.1
    have h14 := hD.2.2.2.2.2.2.2.2.2.2.2.2.2.2.1
    have h15 := hD.2.2.2.2.2.2.2.2.2.2.2.2.2.2.2.1
    have h16 := hD.2.2.2.2.2.2.2.2.2.2.2.2.2.2.2.2.1
    have h17 := hD.2.2.2.2.2.2.2.2.2.2.2.2.2.2.2.2.2.1
    have h19 := hD.2.2.2.2.2.2.2.2.2.2.2.2.2.2.2.2.2.2.1
    have h20 := hD.2.2.2.2.2.2.2.2.2.2.2.2.2.2.2.2.2.2.2
    clear hD
    generalize hA : fillL y _ _ = A at hK ⊢
    simp only [fillL, Act.put, List.setIfInBounds_toArray, List.set_cons_zero, List.set_cons_succ, List.getD_cons_zero, List.getD_cons_succ, Is] at hA
    subst hA
    simp only [h0, h2, h3, h6, h7, h8, h10, h11, h14, h15, h16, h17, h19] at hK ⊢
    clear h0 h2 h3 h6 h7 h8 h10 h11 h14 h15 h16 h17 h19
    refine ite_yes (by rfl) ?_
    obtain ⟨⟨gq, eq⟩, hq⟩ := h20
    rw [eq] at hq hK ⊢
    go_simp
    refine (list27_any 10 _ _ _ _).mono ?_
    rintro r w3 ⟨rfl, hg3⟩
    exact hK _ _ _ rfl hg3 (vecK_nd 10 (by unfold i64ok; decide) (Rn.st _ _ _ _ hg3 hq))
  refine ⟨?_, ?_⟩
  · intro y w2 hG hD K hK
    simp only [depsH, List.getD_cons_zero, List.getD_cons_succ, Is, and_true] at hD
    have h0 := hD.1
    have h1 := hD.2.1
    have h2 := hD.2.2.1
    have h3 := hD.2.2.2.1
    have h4 := hD.2.2.2.2.1
    have h5 := hD.2.2.2.2.2.1
    have h6 := hD.2.2.2.2.2.2.1
    have h7 := hD.2.2.2.2.2.2.2.1
    have h8 := hD.2.2.2.2.2.2.2.2.1
    have h9 := hD.2.2.2.2.2.2.2.2.2.1
    have h10 := hD.2.2.2.2.2.2.2.2.2.2.1
    have h11 := hD.2.2.2.2.2.2.2.2.2.2.2.1
    have h12 := hD.2.2.2.2.2.2.2.2.2.2.2.2.1
    have h13 := hD.2.2.2.2.2.2.2.2.2.2.2.2.2.1
    have h14 := hD.2.2.2.2.2.2.2.2.2.2.2.2.2.2.1
    have h15 := hD.2.2.2.2.2.2.2.2.2.2.2.2.2.2.2.1
    have h16 := hD.2.2.2.2.2.2.2.2.2.2.2.2.2.2.2.2.1
    have h17 := hD.2.2.2.2.2.2.2.2.2.2.2.2.2.2.2.2.2.1
    have h18 := hD.2.2.2.2.2.2.2.2.2.2.2.2.2.2.2.2.2.2.1
    have h19 := hD.2.2.2.2.2.2.2.2.2.2.2.2.2.2.2.2.2.2.2.1
    have h20 := hD.2.2.2.2.2.2.2.2.2.2.2.2.2.2.2.2.2.2.2.2.1
    have h21 := hD.2.2.2.2.2.2.2.2.2.2.2.2.2.2.2.2.2.2.2.2.2
    clear hD
    generalize hA : fillL y _ _ = A at hK ⊢
    simp only [fillL, Act.put, List.setIfInBounds_toArray, List.set_cons_zero, List.set_cons_succ, List.getD_cons_zero, List.getD_cons_succ, Is] at hA
    subst hA
    simp only [h0, h2, h3, h6, h7, h8, h10, h11, h14, h15, h16, h17, h18, h19] at hK ⊢
    clear h0 h2 h3 h6 h7 h8 h10 h11 h14 h15 h16 h17 h18 h19
    refine ite_yes (by rfl) ?_
    go_simp
    have hh := Holds_any [1, 2, 40, 40, 0, 40, 1] _ (.mk 10 0 0 ⟨#[]⟩ [] [(.mk 10 0 0 ⟨#[]⟩ [] [])]) (okS_mk (by decide) (kids_cons (okS_mk (by decide) kids_nil) kids_nil)) _ w2 (Dc.st _ _ _ _ hG d7) h21
    rw [w27_k] at hh
    refine hh.mono ?_
    rintro r w3 ⟨rfl, hg3⟩
    exact hK _ _ _ rfl hg3 rfl
  refine ⟨?_, ?_⟩
  · intro y w2 hG hD K hK
    simp only [depsH, List.getD_cons_zero, List.getD_cons_succ, Is, and_true] at hD
    have h0 := hD.1
    have h1 := hD.2.1
    have h2 := hD.2.2.1
    have h3 := hD.2.2.2.1
    have h4 := hD.2.2.2.2.1
    have h5 := hD.2.2.2.2.2.1
    have h6 := hD.2.2.2.2.2.2.1
    have h7 := hD.2.2.2.2.2.2.2.1
    have h8 := hD.2.2.2.2.2.2.2.2.1
    have h9 := hD.2.2.2.2.2.2.2.2.2.1
    have h10 := hD.2.2.2.2.2.2.2.2.2.2.1
    have h11 := hD.2.2.2.2.2.2.2.2.2.2.2.1
    have h12 := hD.2.2.2.2.2.2.2.2.2.2.2.2.1
    have h13 := hD.2.2.2.2.2.2.2.2.2.2.2.2.2.1
    have h14 := hD.2.2.2.2.2.2.2.2.2.2.2.2.2.2.1
    have h15 := hD.2.2.2.2.2.2.2.2.2.2.2.2.2.2.2.1
    have h16 := hD.2.2.2.2.2.2.2.2.2.2.2.2.2.2.2.2.1
    have h17 := hD.2.2.2.2.2.2.2.2.2.2.2.2.2.2.2.2.2.1
    have h18 := hD.2.2.2.2.2.2.2.2.2.2.2.2.2.2.2.2.2.2.1
    have h19 := hD.2.2.2.2.2.2.2.2.2.2.2.2.2.2.2.2.2.2.2.1
    have h20 := hD.2.2.2.2.2.2.2.2.2.2.2.2.2.2.2.2.2.2.2.2.1
    have h21 := hD.2.2.2.2.2.2.2.2.2.2.2.2.2.2.2.2.2.2.2.2.2.1
    have h22 := hD.2.2.2.2.2.2.2.2.2.2.2.2.2.2.2.2.2.2.2.2.2.2
    clear hD
    generalize hA : fillL y _ _ = A at hK ⊢
    simp only [fillL, Act.put, List.setIfInBounds_toArray, List.set_cons_zero, List.set_cons_succ, List.getD_cons_zero, List.getD_cons_succ, Is] at hA
    subst hA
    simp only [h0, h2, h3, h6, h7, h8, h10, h11, h14, h15, h16, h17, h18, h19, h22] at hK ⊢
    clear h0 h2 h3 h6 h7 h8 h10 h11 h14 h15 h16 h17 h18 h19 h22
    refine ite_yes (by rfl) ?_
    go_simp
    exact hK _ _ _ rfl (Grew.refl _) rfl
  refine ⟨?_, ?_⟩
  · intro y w2 hG hD K hK
    simp only [depsH, List.getD_cons_zero, List.getD_cons_succ, Is, and_true] at hD
    have h0 := hD.1
    have h1 := hD.2.1
    have h2 := hD.2.2.1
    have h3 := hD.2.2.2.1
    have h4 := hD.2.2.2.2.1
    have h5 := hD.2.2.2.2.2.1
    have h6 := hD.2.2.2.2.2.2.1
    have h7 := hD.2.2.2.2.2.2.2.1
    have h8 := hD.2.2.2.2.2.2.2.2.1
    have h9 := hD.2.2.2.2.2.2.2.2.2.1
    have h10 := hD.2.2.2.2.2.2.2.2.2.2.1
    have h11 := hD.2.2.2.2.2.2.2.2.2.2.2.1
    have h12 := hD.2.2.2.2.2.2.2.2.2.2.2.2.1
    have h13 := hD.2.2.2.2.2.2.2.2.2.2.2.2.2.1
    have h14 := hD.2.2.2.2.2.2.2.2.2.2.2.2.2.2.1
    have h15 := hD.2.2.2.2.2.2.2.2.2.2.2.2.2.2.2.1
    have h16 := hD.2.2.2.2.2.2.2.2.2.2.2.2.2.2.2.2.1
    have h17 := hD.2.2.2.2.2.2.2.2.2.2.2.2.2.2.2.2.2.1
    have h18 := hD.2.2.2.2.2.2.2.2.2.2.2.2.2.2.2.2.2.2.1
    have h19 := hD.2.2.2.2.2.2.2.2.2.2.2.2.2.2.2.2.2.2.2.1
    have h20 := hD.2.2.2.2.2.2.2.2.2.2.2.2.2.2.2.2.2.2.2.2.1
    have h21 := hD.2.2.2.2.2.2.2.2.2.2.2.2.2.2.2.2.2.2.2.2.2.1
    have h22 := hD.2.2.2.2.2.2.2.2.2.2.2.2.2.2.2.2.2.2.2.2.2.2.1
    have h23 := hD.2.2.2.2.2.2.2.2.2.2.2.2.2.2.2.2.2.2.2.2.2.2.2
    clear hD
    generalize hA : fillL y _ _ = A at hK ⊢
    simp only [fillL, Act.put, List.setIfInBounds_toArray, List.set_cons_zero, List.set_cons_succ, List.getD_cons_zero, List.getD_cons_succ, Is] at hA
    subst hA
    simp only [h0, h2, h3, h6, h7, h8, h10, h11, h14, h15, h16, h17, h18, h19, h22, h23] at hK ⊢
    clear h0 h2 h3 h6 h7 h8 h10 h11 h14 h15 h16 h17 h18 h19 h22 h23
    refine ite_yes (by rfl) ?_
    go_simp
    exact hK _ _ _ rfl (Grew.refl _) rfl
  refine ⟨?_, ?_⟩
  · intro y w2 hG hD K hK
    simp only [depsH, List.getD_cons_zero, List.getD_cons_succ, Is, and_true] at hD
    have h0 := hD.1
    have h1 := hD.2.1
    have h2 := hD.2.2.1
    have h3 := hD.2.2.2.1
    have h4 := hD.2.2.2.2.1
    have h5 := hD.2.2.2.2.2.1
    have h6 := hD.2.2.2.2.2.2.1
    have h7 := hD.2.2.2.2.2.2.2.1
    have h8 := hD.2.2.2.2.2.2.2.2.1
    have h9 := hD.2.2.2.2.2.2.2.2.2.1
    have h10 := hD.2.2.2.2.2.2.2.2.2.2.1
    have h11 := hD.2.2.2.2.2.2.2.2.2.2.2.1
    have h12 := hD.2.2.2.2.2.2.2.2.2.2.2.2.1
    have h13 := hD.2.2.2.2.2.2.2.2.2.2.2.2.2.1
    have h14 := hD.2.2.2.2.2.2.2.2.2.2.2.2.2.2.1
    have h15 := hD.2.2.2.2.2.2.2.2.2.2.2.2.2.2.2.1
    have h16 := hD.2.2.2.2.2.2.2.2.2.2.2.2.2.2.2.2.1
    have h17 := hD.2.2.2.2.2.2.2.2.2.2.2.2.2.2.2.2.2.1
    have h18 := hD.2.2.2.2.2.2.2.2.2.2.2.2.2.2.2.2.2.2.1
    have h19 := hD.2.2.2.2.2.2.2.2.2.2.2.2.2.2.2.2.2.2.2.1
    have h20 := hD.2.2.2.2.2.2.2.2.2.2.2.2.2.2.2.2.2.2.2.2.1
    have h21 := hD.2.2.2.2.2.2.2.2.2.2.2.2.2.2.2.2.2.2.2.2.2.1
    have h22 := hD.2.2.2.2.2.2.2.2.2.2.2.2.2.2.2.2.2.2.2.2.2.2.1
    have h23 := hD.2.2.2.2.2.2.2.2.2.2.2.2.2.2.2.2.2.2.2.2.2.2.2.1
    have h24 := hD.2.2.2.2.2.2.2.2.2.2.2.2.2.2.2.2.2.2.2.2.2.2.2.2
    clear hD
    generalize hA : fillL y _ _ = A at hK ⊢
    simp only [fillL, Act.put, List.setIfInBounds_toArray, List.set_cons_zero, List.set_cons_succ, List.getD_cons_zero, List.getD_cons_succ, Is] at hA
    subst hA
    simp only [h0, h2, h3, h6, h7, h8, h10, h11, h14, h15, h16, h17, h18, h19, h22, h23, h24] at hK ⊢
    clear h0 h2 h3 h6 h7 h8 h10 h11 h14 h15 h16 h17 h18 h19 h22 h23 h24
    refine ite_yes (by rfl) ?_
    go_simp
    exact hK _ _ _ rfl (Grew.refl _) rfl
  refine ⟨?_, ?_⟩
  · intro y w2 hG hD K hK
    simp only [depsH, List.getD_cons_zero, List.getD_cons_succ, Is, and_true] at hD
    have h0 := hD.1
    have h1 := hD.2.1
    have h2 := hD.2.2.1
    have h3 := hD.2.2.2.1
    have h4 := hD.2.2.2.2.1
    have h5 := hD.2.2.2.2.2.1
    have h6 := hD.2.2.2.2.2.2.1
    have h7 := hD.2.2.2.2.2.2.2.1
    have h8 := hD.2.2.2.2.2.2.2.2.1
    have h9 := hD.2.2.2.2.2.2.2.2.2.1
    have h10 := hD.2.2.2.2.2.2.2.2.2.2.1
    have h11 := hD.2.2.2.2.2.2.2.2.2.2.2.1
    have h12 := hD.2.2.2.2.2.2.2.2.2.2.2.2.1
    have h13 := hD.2.2.2.2.2.2.2.2.2.2.2.2.2.1
    have h14 := hD.2.2.2.2.2.2.2.2.2.2.2.2.2.2.1
    have h15 := hD.2.2.2.2.2.2.2.2.2.2.2.2.2.2.2.1
    have h16 := hD.2.2.2.2.2.2.2.2.2.2.2.2.2.2.2.2.1
    have h17 := hD.2.2.2.2.2.2.2.2.2.2.2.2.2.2.2.2.2.1
    have h18 := hD.2.2.2.2.2.2.2.2.2.2.2.2.2.2.2.2.2.2.1
    have h19 := hD.2.2.2.2.2.2.2.2.2.2.2.2.2.2.2.2.2.2.2.1
    have h20 := hD.2.2.2.2.2.2.2.2.2.2.2.2.2.2.2.2.2.2.2.2.1
    have h21 := hD.2.2.2.2.2.2.2.2.2.2.2.2.2.2.2.2.2.2.2.2.2.1
    have h22 := hD.2.2.2.2.2.2.2.2.2.2.2.2.2.2.2.2.2.2.2.2.2.2.1
    have h23 := hD.2.2.2.2.2.2.2.2.2.2.2.2.2.2.2.2.2.2.2.2.2.2.2.1
    have h24 := hD.2.2.2.2.2.2.2.2.2.2.2.2.2.2.2.2.2.2.2.2.2.2.2.2.1
    have h25 := hD.2.2.2.2.2.2.2.2.2.2.2.2.2.2.2.2.2.2.2.2.2.2.2.2.2
    clear hD
    generalize hA : fillL y _ _ = A at hK ⊢
    simp only [fillL, Act.put, List.setIfInBounds_toArray, List.set_cons_zero, List.set_cons_succ, List.getD_cons_zero, List.getD_cons_succ, Is] at hA
    subst hA
    simp only [h0, h2, h3, h6, h7, h8, h10, h11, h14, h15, h16, h17, h18, h19, h22, h23, h24, h25] at hK ⊢
    clear h0 h2 h3 h6 h7 h8 h10 h11 h14 h15 h16 h17 h18 h19 h22 h23 h24 h25
    refine ite_yes (by rfl) ?_
    go_simp
    exact hK _ _ _ rfl (Grew.refl _) rfl
  refine ⟨?_, ?_⟩
  · intro y w2 hG hD K hK
    simp only [depsH, List.getD_cons_zero, List.getD_cons_succ, Is, and_true] at hD
    have h0 := hD.1
    have h1 := hD.2.1
    have h2 := hD.2.2.1
    have h3 := hD.2.2.2.1
    have h4 := hD.2.2.2.2.1
    have h5 := hD.2.2.2.2.2.1
    have h6 := hD.2.2.2.2.2.2.1
    have h7 := hD.2.2.2.2.2.2.2.1
    have h8 := hD.2.2.2.2.2.2.2.2.1
    have h9 := hD.2.2.2.2.2.2.2.2.2.1
    have h10 := hD.2.2.2.2.2.2.2.2.2.2.1
    have h11 := hD.2.2.2.2.2.2.2.2.2.2.2.1
    have h12 := hD.2.2.2.2.2.2.2.2.2.2.2.2.1
    have h13 := hD.2.2.2.2.2.2.2.2.2.2.2.2.2.1
    have h14 := hD.2.2.2.2.2.2.2.2.2.2.2.2.2.2.1
    have h15 := hD.2.2.2.2.2.2.2.2.2.2.2.2.2.2.2.1
    have h16 := hD.2.2.2.2.2.2.2.2.2.2.2.2.2.2.2.2.1
    have h17 := hD.2.2.2.2.2.2.2.2.2.2.2.2.2.2.2.2.2.1
    have h18 := hD.2.2.2.2.2.2.2.2.2.2.2.2.2.2.2.2.2.2.1
    have h19 := hD.2.2.2.2.2.2.2.2.2.2.2.2.2.2.2.2.2.2.2.1
    have h20 := hD.2.2.2.2.2.2.2.2.2.2.2.2.2.2.2.2.2.2.2.2.1
    have h21 := hD.2.2.2.2.2.2.2.2.2.2.2.2.2.2.2.2.2.2.2.2.2.1
    have h22 := hD.2.2.2.2.2.2.2.2.2.2.2.2.2.2.2.2.2.2.2.2.2.2.1
    have h23 := hD.2.2.2.2.2.2.2.2.2.2.2.2.2.2.2.2.2.2.2.2.2.2.2.1
    have h24 := hD.2.2.2.2.2.2.2.2.2.2.2.2.2.2.2.2.2.2.2.2.2.2.2.2.1
    have h25 := hD.2.2.2.2.2.2.2.2.2.2.2.2.2.2.2.2.2.2.2.2.2.2.2.2.2
    clear hD
    have da0 := hG.cell a0
    have da1 := hG.cell a1
    have da2 := hG.cell a2
    have da3 := hG.cell a3
    have da4 := hG.cell a4
    have da5 := hG.cell a5
    generalize hA : fillL y _ _ = A at hK ⊢
    simp only [fillL, Act.put, List.setIfInBounds_toArray, List.set_cons_zero, List.set_cons_succ, List.getD_cons_zero, List.getD_cons_succ, Is] at hA
    subst hA
    simp only [h0, h2, h3, h6, h7, h8, h10, h11, h14, h15, h16, h17, h18, h19, h22, h23, h24, h25] at hK ⊢
    clear h0 h2 h3 h6 h7 h8 h10 h11 h14 h15 h16 h17 h18 h19 h22 h23 h24 h25
    refine ite_yes (by rfl) ?_
    go_simp
    exact hK _ _ _ rfl (Grew.refl _) rfl
  refine ⟨?_, ?_⟩
  · intro y w2 hG hD K hK
    simp only [depsH, List.getD_cons_zero, List.getD_cons_succ, Is, and_true] at hD
    have h0 := hD.1
    have h1 := hD.2.1
    have h2 := hD.2.2.1
    have h3 := hD.2.2.2.1
    have h4 := hD.2.2.2.2.1
    have h5 := hD.2.2.2.2.2.1
    have h6 := hD.2.2.2.2.2.2.1
    have h7 := hD.2.2.2.2.2.2.2.1
    have h8 := hD.2.2.2.2.2.2.2.2.1
    have h9 := hD.2.2.2.2.2.2.2.2.2.1
    have h10 := hD.2.2.2.2.2.2.2.2.2.2.1
    have h11 := hD.2.2.2.2.2.2.2.2.2.2.2.1
    have h12 := hD.2.2.2.2.2.2.2.2.2.2.2.2.1
    have h13 := hD.2.2.2.2.2.2.2.2.2.2.2.2.2.1
    have h14 := hD.2.2.2.2.2.2.2.2.2.2.2.2.2.2.1
    have h15 := hD.2.2.2.2.2.2.2.2.2.2.2.2.2.2.2.1
    have h16 := hD.2.2.2.2.2.2.2.2.2.2.2.2.2.2.2.2.1
    have h17 := hD.2.2.2.2.2.2.2.2.2.2.2.2.2.2.2.2.2.1
    have h18 := hD.2.2.2.2.2.2.2.2.2.2.2.2.2.2.2.2.2.2.1
    have h19 := hD.2.2.2.2.2.2.2.2.2.2.2.2.2.2.2.2.2.2.2.1
    have h20 := hD.2.2.2.2.2.2.2.2.2.2.2.2.2.2.2.2.2.2.2.2.1
    have h21 := hD.2.2.2.2.2.2.2.2.2.2.2.2.2.2.2.2.2.2.2.2.2.1
    have h22 := hD.2.2.2.2.2.2.2.2.2.2.2.2.2.2.2.2.2.2.2.2.2.2.1
    have h23 := hD.2.2.2.2.2.2.2.2.2.2.2.2.2.2.2.2.2.2.2.2.2.2.2.1
    have h24 := hD.2.2.2.2.2.2.2.2.2.2.2.2.2.2.2.2.2.2.2.2.2.2.2.2.1
    have h25 := hD.2.2.2.2.2.2.2.2.2.2.2.2.2.2.2.2.2.2.2.2.2.2.2.2.2.1
    have h27 := hD.2.2.2.2.2.2.2.2.2.2.2.2.2.2.2.2.2.2.2.2.2.2.2.2.2.2
    clear hD
    generalize hA : fillL y _ _ = A at hK ⊢
    simp only [fillL, Act.put, List.setIfInBounds_toArray, List.set_cons_zero, List.set_cons_succ, List.getD_cons_zero, List.getD_cons_succ, Is] at hA
    subst hA
    simp only [h0, h2, h3, h6, h7, h8, h10, h11, h14, h15, h16, h17, h18, h19, h22, h23, h24, h25, h27] at hK ⊢
    clear h0 h2 h3 h6 h7 h8 h10 h11 h14 h15 h16 h17 h18 h19 h22 h23 h24 h25 h27
    refine ite_yes (by rfl) ?_
    go_simp
    have hbb := built_nodes w2 [(.mk 1 0 0 ⟨#[]⟩ [] [])] [.agg #[.int .i64 1, .int .i64 0, .int .u64 0, .string ⟨#[]⟩, .slice none 0 0, .slice none 0 0]] (by intro x hx; simp only [List.mem_cons, List.not_mem_nil, or_false] at hx; subst hx; exact ⟨_, _, _, _, _, _, _, _, _, _, rfl⟩) ⟨_, _, rfl, (leaf_nd 1 0 0 ⟨#[]⟩ (by unfold i64ok u64ok lenok; decide) _), rfl⟩ (by simp)
    exact hK _ _ _ rfl ((Grew.refl _).alloc _) ⟨⟨_, rfl⟩, hbb⟩
  refine ⟨?_, ?_⟩
  · intro y w2 hG hD K hK
    simp only [depsH, List.getD_cons_zero, List.getD_cons_succ, Is, and_true] at hD
    have h0 := hD.1
    have h1 := hD.2.1
    have h2 := hD.2.2.1
    have h3 := hD.2.2.2.1
    have h4 := hD.2.2.2.2.1
    have h5 := hD.2.2.2.2.2.1
    have h6 := hD.2.2.2.2.2.2.1
    have h7 := hD.2.2.2.2.2.2.2.1
    have h8 := hD.2.2.2.2.2.2.2.2.1
    have h9 := hD.2.2.2.2.2.2.2.2.2.1
    have h10 := hD.2.2.2.2.2.2.2.2.2.2.1
    have h11 := hD.2.2.2.2.2.2.2.2.2.2.2.1
    have h12 := hD.2.2.2.2.2.2.2.2.2.2.2.2.1
    have h13 := hD.2.2.2.2.2.2.2.2.2.2.2.2.2.1
    have h14 := hD.2.2.2.2.2.2.2.2.2.2.2.2.2.2.1
    have h15 := hD.2.2.2.2.2.2.2.2.2.2.2.2.2.2.2.1
    have h16 := hD.2.2.2.2.2.2.2.2.2.2.2.2.2.2.2.2.1
    have h17 := hD.2.2.2.2.2.2.2.2.2.2.2.2.2.2.2.2.2.1
    have h18 := hD.2.2.2.2.2.2.2.2.2.2.2.2.2.2.2.2.2.2.1
    have h19 := hD.2.2.2.2.2.2.2.2.2.2.2.2.2.2.2.2.2.2.2.1
    have h20 := hD.2.2.2.2.2.2.2.2.2.2.2.2.2.2.2.2.2.2.2.2.1
    have h21 := hD.2.2.2.2.2.2.2.2.2.2.2.2.2.2.2.2.2.2.2.2.2.1
    have h22 := hD.2.2.2.2.2.2.2.2.2.2.2.2.2.2.2.2.2.2.2.2.2.2.1
    have h23 := hD.2.2.2.2.2.2.2.2.2.2.2.2.2.2.2.2.2.2.2.2.2.2.2.1
    have h24 := hD.2.2.2.2.2.2.2.2.2.2.2.2.2.2.2.2.2.2.2.2.2.2.2.2.1
    have h25 := hD.2.2.2.2.2.2.2.2.2.2.2.2.2.2.2.2.2.2.2.2.2.2.2.2.2.1
    have h27 := hD.2.2.2.2.2.2.2.2.2.2.2.2.2.2.2.2.2.2.2.2.2.2.2.2.2.2.1
    have h28 := hD.2.2.2.2.2.2.2.2.2.2.2.2.2.2.2.2.2.2.2.2.2.2.2.2.2.2.2
    clear hD
    generalize hA : fillL y _ _ = A at hK ⊢
    simp only [fillL, Act.put, List.setIfInBounds_toArray, List.set_cons_zero, List.set_cons_succ, List.getD_cons_zero, List.getD_cons_succ, Is] at hA
    subst hA
    simp only [h0, h2, h3, h6, h7, h8, h10, h11, h14, h15, h16, h17, h18, h19, h22, h23, h24, h25, h27] at hK ⊢
    clear h0 h2 h3 h6 h7 h8 h10 h11 h14 h15 h16 h17 h18 h19 h22 h23 h24 h25 h27
    refine ite_yes (by rfl) ?_
    obtain ⟨⟨gq, eq⟩, hq⟩ := h28
    rw [eq] at hq hK ⊢
    go_simp
    refine (list27_any 10 _ _ _ _).mono ?_
    rintro r w3 ⟨rfl, hg3⟩
    exact hK _ _ _ rfl hg3 (vecK_nd 10 (by unfold i64ok; decide) (Rn.st _ _ _ _ hg3 hq))
  refine ⟨?_, ?_⟩
  · intro y w2 hG hD K hK
    simp only [depsH, List.getD_cons_zero, List.getD_cons_succ, Is, and_true] at hD
    have h0 := hD.1
    have h1 := hD.2.1
    have h2 := hD.2.2.1
    have h3 := hD.2.2.2.1
    have h4 := hD.2.2.2.2.1
    have h5 := hD.2.2.2.2.2.1
    have h6 := hD.2.2.2.2.2.2.1
    have h7 := hD.2.2.2.2.2.2.2.1
    have h8 := hD.2.2.2.2.2.2.2.2.1
    have h9 := hD.2.2.2.2.2.2.2.2.2.1
    have h10 := hD.2.2.2.2.2.2.2.2.2.2.1
    have h11 := hD.2.2.2.2.2.2.2.2.2.2.2.1
    have h12 := hD.2.2.2.2.2.2.2.2.2.2.2.2.1
    have h13 := hD.2.2.2.2.2.2.2.2.2.2.2.2.2.1
    have h14 := hD.2.2.2.2.2.2.2.2.2.2.2.2.2.2.1
    have h15 := hD.2.2.2.2.2.2.2.2.2.2.2.2.2.2.2.1
    have h16 := hD.2.2.2.2.2.2.2.2.2.2.2.2.2.2.2.2.1
    have h17 := hD.2.2.2.2.2.2.2.2.2.2.2.2.2.2.2.2.2.1
    have h18 := hD.2.2.2.2.2.2.2.2.2.2.2.2.2.2.2.2.2.2.1
    have h19 := hD.2.2.2.2.2.2.2.2.2.2.2.2.2.2.2.2.2.2.2.1
    have h20 := hD.2.2.2.2.2.2.2.2.2.2.2.2.2.2.2.2.2.2.2.2.1
    have h21 := hD.2.2.2.2.2.2.2.2.2.2.2.2.2.2.2.2.2.2.2.2.2.1
    have h22 := hD.2.2.2.2.2.2.2.2.2.2.2.2.2.2.2.2.2.2.2.2.2.2.1
    have h23 := hD.2.2.2.2.2.2.2.2.2.2.2.2.2.2.2.2.2.2.2.2.2.2.2.1
    have h24 := hD.2.2.2.2.2.2.2.2.2.2.2.2.2.2.2.2.2.2.2.2.2.2.2.2.1
    have h25 := hD.2.2.2.2.2.2.2.2.2.2.2.2.2.2.2.2.2.2.2.2.2.2.2.2.2.1
    have h26 := hD.2.2.2.2.2.2.2.2.2.2.2.2.2.2.2.2.2.2.2.2.2.2.2.2.2.2.1
    have h27 := hD.2.2.2.2.2.2.2.2.2.2.2.2.2.2.2.2.2.2.2.2.2.2.2.2.2.2.2.1
    have h28 := hD.2.2.2.2.2.2.2.2.2.2.2.2.2.2.2.2.2.2.2.2.2.2.2.2.2.2.2.2.1
    have h29 := hD.2.2.2.2.2.2.2.2.2.2.2.2.2.2.2.2.2.2.2.2.2.2.2.2.2.2.2.2.2
    clear hD
    generalize hA : fillL y _ _ = A at hK ⊢
    simp only [fillL, Act.put, List.setIfInBounds_toArray, List.set_cons_zero, List.set_cons_succ, List.getD_cons_zero, List.getD_cons_succ, Is] at hA
    subst hA
    simp only [h0, h2, h3, h6, h7, h8, h10, h11, h14, h15, h16, h17, h18, h19, h22, h23, h24, h25, h26, h27] at hK ⊢
    clear h0 h2 h3 h6 h7 h8 h10 h11 h14 h15 h16 h17 h18 h19 h22 h23 h24 h25 h26 h27
    refine ite_yes (by rfl) ?_
    go_simp
    have hh := Holds_any [1, 2, 40, 40, 0, 40, 1] _ (.mk 10 0 0 ⟨#[]⟩ [] [(.mk 1 0 0 ⟨#[]⟩ [] [])]) (okS_mk (by decide) (kids_cons (okS_mk (by decide) kids_nil) kids_nil)) _ w2 (Dc.st _ _ _ _ hG d7) h29
    rw [w27_l] at hh
    refine hh.mono ?_
    rintro r w3 ⟨rfl, hg3⟩
    exact hK _ _ _ rfl hg3 rfl
  refine ⟨?_, ?_⟩
  · intro y w2 hG hD K hK
    simp only [depsH, List.getD_cons_zero, List.getD_cons_succ, Is, and_true] at hD
    have h0 := hD.1
    have h1 := hD.2.1
    have h2 := hD.2.2.1
    have h3 := hD.2.2.2.1
    have h4 := hD.2.2.2.2.1
    have h5 := hD.2.2.2.2.2.1
    have h6 := hD.2.2.2.2.2.2.1
    have h7 := hD.2.2.2.2.2.2.2.1
    have h8 := hD.2.2.2.2.2.2.2.2.1
    have h9 := hD.2.2.2.2.2.2.2.2.2.1
    have h10 := hD.2.2.2.2.2.2.2.2.2.2.1
    have h11 := hD.2.2.2.2.2.2.2.2.2.2.2.1
    have h12 := hD.2.2.2.2.2.2.2.2.2.2.2.2.1
    have h13 := hD.2.2.2.2.2.2.2.2.2.2.2.2.2.1
    have h14 := hD.2.2.2.2.2.2.2.2.2.2.2.2.2.2.1
    have h15 := hD.2.2.2.2.2.2.2.2.2.2.2.2.2.2.2.1
    have h16 := hD.2.2.2.2.2.2.2.2.2.2.2.2.2.2.2.2.1
    have h17 := hD.2.2.2.2.2.2.2.2.2.2.2.2.2.2.2.2.2.1
    have h18 := hD.2.2.2.2.2.2.2.2.2.2.2.2.2.2.2.2.2.2.1
    have h19 := hD.2.2.2.2.2.2.2.2.2.2.2.2.2.2.2.2.2.2.2.1
    have h20 := hD.2.2.2.2.2.2.2.2.2.2.2.2.2.2.2.2.2.2.2.2.1
    have h21 := hD.2.2.2.2.2.2.2.2.2.2.2.2.2.2.2.2.2.2.2.2.2.1
    have h22 := hD.2.2.2.2.2.2.2.2.2.2.2.2.2.2.2.2.2.2.2.2.2.2.1
    have h23 := hD.2.2.2.2.2.2.2.2.2.2.2.2.2.2.2.2.2.2.2.2.2.2.2.1
    have h24 := hD.2.2.2.2.2.2.2.2.2.2.2.2.2.2.2.2.2.2.2.2.2.2.2.2.1
    have h25 := hD.2.2.2.2.2.2.2.2.2.2.2.2.2.2.2.2.2.2.2.2.2.2.2.2.2.1
    have h26 := hD.2.2.2.2.2.2.2.2.2.2.2.2.2.2.2.2.2.2.2.2.2.2.2.2.2.2.1
    have h27 := hD.2.2.2.2.2.2.2.2.2.2.2.2.2.2.2.2.2.2.2.2.2.2.2.2.2.2.2.1
    have h28 := hD.2.2.2.2.2.2.2.2.2.2.2.2.2.2.2.2.2.2.2.2.2.2.2.2.2.2.2.2.1
    have h29 := hD.2.2.2.2.2.2.2.2.2.2.2.2.2.2.2.2.2.2.2.2.2.2.2.2.2.2.2.2.2.1
    have h30 := hD.2.2.2.2.2.2.2.2.2.2.2.2.2.2.2.2.2.2.2.2.2.2.2.2.2.2.2.2.2.2
    clear hD
    generalize hA : fillL y _ _ = A at hK ⊢
    simp only [fillL, Act.put, List.setIfInBounds_toArray, List.set_cons_zero, List.set_cons_succ, List.getD_cons_zero, List.getD_cons_succ, Is] at hA
    subst hA
    simp only [h0, h2, h3, h6, h7, h8, h10, h11, h14, h15, h16, h17, h18, h19, h22, h23, h24, h25, h26, h27, h30] at hK ⊢
    clear h0 h2 h3 h6 h7 h8 h10 h11 h14 h15 h16 h17 h18 h19 h22 h23 h24 h25 h26 h27 h30
    refine ite_yes (by rfl) ?_
    go_simp
    exact hK _ _ _ rfl (Grew.refl _) rfl
  refine ⟨?_, ?_⟩
  · intro y w2 hG hD K hK
    simp only [depsH, List.getD_cons_zero, List.getD_cons_succ, Is, and_true] at hD
    have h0 := hD.1
    have h1 := hD.2.1
    have h2 := hD.2.2.1
    have h3 := hD.2.2.2.1
    have h4 := hD.2.2.2.2.1
    have h5 := hD.2.2.2.2.2.1
    have h6 := hD.2.2.2.2.2.2.1
    have h7 := hD.2.2.2.2.2.2.2.1
    have h8 := hD.2.2.2.2.2.2.2.2.1
    have h9 := hD.2.2.2.2.2.2.2.2.2.1
    have h10 := hD.2.2.2.2.2.2.2.2.2.2.1
    have h11 := hD.2.2.2.2.2.2.2.2.2.2.2.1
    have h12 := hD.2.2.2.2.2.2.2.2.2.2.2.2.1
    have h13 := hD.2.2.2.2.2.2.2.2.2.2.2.2.2.1
    have h14 := hD.2.2.2.2.2.2.2.2.2.2.2.2.2.2.1
    have h15 := hD.2.2.2.2.2.2.2.2.2.2.2.2.2.2.2.1
    have h16 := hD.2.2.2.2.2.2.2.2.2.2.2.2.2.2.2.2.1
    have h17 := hD.2.2.2.2.2.2.2.2.2.2.2.2.2.2.2.2.2.1
    have h18 := hD.2.2.2.2.2.2.2.2.2.2.2.2.2.2.2.2.2.2.1
    have h19 := hD.2.2.2.2.2.2.2.2.2.2.2.2.2.2.2.2.2.2.2.1
    have h20 := hD.2.2.2.2.2.2.2.2.2.2.2.2.2.2.2.2.2.2.2.2.1
    have h21 := hD.2.2.2.2.2.2.2.2.2.2.2.2.2.2.2.2.2.2.2.2.2.1
    have h22 := hD.2.2.2.2.2.2.2.2.2.2.2.2.2.2.2.2.2.2.2.2.2.2.1
    have h23 := hD.2.2.2.2.2.2.2.2.2.2.2.2.2.2.2.2.2.2.2.2.2.2.2.1
    have h24 := hD.2.2.2.2.2.2.2.2.2.2.2.2.2.2.2.2.2.2.2.2.2.2.2.2.1
    have h25 := hD.2.2.2.2.2.2.2.2.2.2.2.2.2.2.2.2.2.2.2.2.2.2.2.2.2.1
    have h26 := hD.2.2.2.2.2.2.2.2.2.2.2.2.2.2.2.2.2.2.2.2.2.2.2.2.2.2.1
    have h27 := hD.2.2.2.2.2.2.2.2.2.2.2.2.2.2.2.2.2.2.2.2.2.2.2.2.2.2.2.1
    have h28 := hD.2.2.2.2.2.2.2.2.2.2.2.2.2.2.2.2.2.2.2.2.2.2.2.2.2.2.2.2.1
    have h29 := hD.2.2.2.2.2.2.2.2.2.2.2.2.2.2.2.2.2.2.2.2.2.2.2.2.2.2.2.2.2.1
    have h30 := hD.2.2.2.2.2.2.2.2.2.2.2.2.2.2.2.2.2.2.2.2.2.2.2.2.2.2.2.2.2.2.1
    have h31 := hD.2.2.2.2.2.2.2.2.2.2.2.2.2.2.2.2.2.2.2.2.2.2.2.2.2.2.2.2.2.2.2
    clear hD
    generalize hA : fillL y _ _ = A at hK ⊢
    simp only [fillL, Act.put, List.setIfInBounds_toArray, List.set_cons_zero, List.set_cons_succ, List.getD_cons_zero, List.getD_cons_succ, Is] at hA
    subst hA
    simp only [h0, h2, h3, h6, h7, h8, h10, h11, h14, h15, h16, h17, h18, h19, h22, h23, h24, h25, h26, h27, h30, h31] at hK ⊢
    clear h0 h2 h3 h6 h7 h8 h10 h11 h14 h15 h16 h17 h18 h19 h22 h23 h24 h25 h26 h27 h30 h31
    refine ite_yes (by rfl) ?_
    go_simp
    exact hK _ _ _ rfl (Grew.refl _) rfl
  refine ⟨?_, ?_⟩
  · intro y w2 hG hD K hK
    simp only [depsH, List.getD_cons_zero, List.getD_cons_succ, Is, and_true] at hD
    have h0 := hD.1
    have h1 := hD.2.1
    have h2 := hD.2.2.1
    have h3 := hD.2.2.2.1
    have h4 := hD.2.2.2.2.1
    have h5 := hD.2.2.2.2.2.1
    have h6 := hD.2.2.2.2.2.2.1
    have h7 := hD.2.2.2.2.2.2.2.1
    have h8 := hD.2.2.2.2.2.2.2.2.1
    have h9 := hD.2.2.2.2.2.2.2.2.2.1
    have h10 := hD.2.2.2.2.2.2.2.2.2.2.1
    have h11 := hD.2.2.2.2.2.2.2.2.2.2.2.1
    have h12 := hD.2.2.2.2.2.2.2.2.2.2.2.2.1
    have h13 := hD.2.2.2.2.2.2.2.2.2.2.2.2.2.1
    have h14 := hD.2.2.2.2.2.2.2.2.2.2.2.2.2.2.1
    have h15 := hD.2.2.2.2.2.2.2.2.2.2.2.2.2.2.2.1
    have h16 := hD.2.2.2.2.2.2.2.2.2.2.2.2.2.2.2.2.1
    have h17 := hD.2.2.2.2.2.2.2.2.2.2.2.2.2.2.2.2.2.1
    have h18 := hD.2.2.2.2.2.2.2.2.2.2.2.2.2.2.2.2.2.2.1
    have h19 := hD.2.2.2.2.2.2.2.2.2.2.2.2.2.2.2.2.2.2.2.1
    have h20 := hD.2.2.2.2.2.2.2.2.2.2.2.2.2.2.2.2.2.2.2.2.1
    have h21 := hD.2.2.2.2.2.2.2.2.2.2.2.2.2.2.2.2.2.2.2.2.2.1
    have h22 := hD.2.2.2.2.2.2.2.2.2.2.2.2.2.2.2.2.2.2.2.2.2.2.1
    have h23 := hD.2.2.2.2.2.2.2.2.2.2.2.2.2.2.2.2.2.2.2.2.2.2.2.1
    have h24 := hD.2.2.2.2.2.2.2.2.2.2.2.2.2.2.2.2.2.2.2.2.2.2.2.2.1
    have h25 := hD.2.2.2.2.2.2.2.2.2.2.2.2.2.2.2.2.2.2.2.2.2.2.2.2.2.1
    have h26 := hD.2.2.2.2.2.2.2.2.2.2.2.2.2.2.2.2.2.2.2.2.2.2.2.2.2.2.1
    have h27 := hD.2.2.2.2.2.2.2.2.2.2.2.2.2.2.2.2.2.2.2.2.2.2.2.2.2.2.2.1
    have h28 := hD.2.2.2.2.2.2.2.2.2.2.2.2.2.2.2.2.2.2.2.2.2.2.2.2.2.2.2.2.1
    have h29 := hD.2.2.2.2.2.2.2.2.2.2.2.2.2.2.2.2.2.2.2.2.2.2.2.2.2.2.2.2.2.1
    have h30 := hD.2.2.2.2.2.2.2.2.2.2.2.2.2.2.2.2.2.2.2.2.2.2.2.2.2.2.2.2.2.2.1
    have h31 := hD.2.2.2.2.2.2.2.2.2.2.2.2.2.2.2.2.2.2.2.2.2.2.2.2.2.2.2.2.2.2.2.1
    have h32 := hD.2.2.2.2.2.2.2.2.2.2.2.2.2.2.2.2.2.2.2.2.2.2.2.2.2.2.2.2.2.2.2.2
    clear hD
    generalize hA : fillL y _ _ = A at hK ⊢
    simp only [fillL, Act.put, List.setIfInBounds_toArray, List.set_cons_zero, List.set_cons_succ, List.getD_cons_zero, List.getD_cons_succ, Is] at hA
    subst hA
    simp only [h0, h2, h3, h6, h7, h8, h10, h11, h14, h15, h16, h17, h18, h19, h22, h23, h24, h25, h26, h27, h30, h31, h32] at hK ⊢
    clear h0 h2 h3 h6 h7 h8 h10 h11 h14 h15 h16 h17 h18 h19 h22 h23 h24 h25 h26 h27 h30 h31 h32
    refine ite_yes (by rfl) ?_
    go_simp
    exact hK _ _ _ rfl (Grew.refl _) rfl
  refine ⟨?_, ?_⟩
  · intro y w2 hG hD K hK
    simp only [depsH, List.getD_cons_zero, List.getD_cons_succ, Is, and_true] at hD
    have h0 := hD.1
    have h1 := hD.2.1
    have h2 := hD.2.2.1
    have h3 := hD.2.2.2.1
    have h4 := hD.2.2.2.2.1
    have h5 := hD.2.2.2.2.2.1
    have h6 := hD.2.2.2.2.2.2.1
    have h7 := hD.2.2.2.2.2.2.2.1
    have h8 := hD.2.2.2.2.2.2.2.2.1
    have h9 := hD.2.2.2.2.2.2.2.2.2.1
    have h10 := hD.2.2.2.2.2.2.2.2.2.2.1
    have h11 := hD.2.2.2.2.2.2.2.2.2.2.2.1
    have h12 := hD.2.2.2.2.2.2.2.2.2.2.2.2.1
    have h13 := hD.2.2.2.2.2.2.2.2.2.2.2.2.2.1
    have h14 := hD.2.2.2.2.2.2.2.2.2.2.2.2.2.2.1
    have h15 := hD.2.2.2.2.2.2.2.2.2.2.2.2.2.2.2.1
    have h16 := hD.2.2.2.2.2.2.2.2.2.2.2.2.2.2.2.2.1
    have h17 := hD.2.2.2.2.2.2.2.2.2.2.2.2.2.2.2.2.2.1
    have h18 := hD.2.2.2.2.2.2.2.2.2.2.2.2.2.2.2.2.2.2.1
    have h19 := hD.2.2.2.2.2.2.2.2.2.2.2.2.2.2.2.2.2.2.2.1
    have h20 := hD.2.2.2.2.2.2.2.2.2.2.2.2.2.2.2.2.2.2.2.2.1
    have h21 := hD.2.2.2.2.2.2.2.2.2.2.2.2.2.2.2.2.2.2.2.2.2.1
    have h22 := hD.2.2.2.2.2.2.2.2.2.2.2.2.2.2.2.2.2.2.2.2.2.2.1
    have h23 := hD.2.2.2.2.2.2.2.2.2.2.2.2.2.2.2.2.2.2.2.2.2.2.2.1
    have h24 := hD.2.2.2.2.2.2.2.2.2.2.2.2.2.2.2.2.2.2.2.2.2.2.2.2.1
    have h25 := hD.2.2.2.2.2.2.2.2.2.2.2.2.2.2.2.2.2.2.2.2.2.2.2.2.2.1
    have h26 := hD.2.2.2.2.2.2.2.2.2.2.2.2.2.2.2.2.2.2.2.2.2.2.2.2.2.2.1
    have h27 := hD.2.2.2.2.2.2.2.2.2.2.2.2.2.2.2.2.2.2.2.2.2.2.2.2.2.2.2.1
    have h28 := hD.2.2.2.2.2.2.2.2.2.2.2.2.2.2.2.2.2.2.2.2.2.2.2.2.2.2.2.2.1
    have h29 := hD.2.2.2.2.2.2.2.2.2.2.2.2.2.2.2.2.2.2.2.2.2.2.2.2.2.2.2.2.2.1
    have h30 := hD.2.2.2.2.2.2.2.2.2.2.2.2.2.2.2.2.2.2.2.2.2.2.2.2.2.2.2.2.2.2.1
    have h31 := hD.2.2.2.2.2.2.2.2.2.2.2.2.2.2.2.2.2.2.2.2.2.2.2.2.2.2.2.2.2.2.2.1
    have h32 := hD.2.2.2.2.2.2.2.2.2.2.2.2.2.2.2.2.2.2.2.2.2.2.2.2.2.2.2.2.2.2.2.2.1
    have h33 := hD.2.2.2.2.2.2.2.2.2.2.2.2.2.2.2.2.2.2.2.2.2.2.2.2.2.2.2.2.2.2.2.2.2
    clear hD
    have da0 := hG.cell a0
    have da1 := hG.cell a1
    have da2 := hG.cell a2
    have da3 := hG.cell a3
    have da4 := hG.cell a4
    have da5 := hG.cell a5
    generalize hA : fillL y _ _ = A at hK ⊢
    simp only [fillL, Act.put, List.setIfInBounds_toArray, List.set_cons_zero, List.set_cons_succ, List.getD_cons_zero, List.getD_cons_succ, Is] at hA
    subst hA
    simp only [h0, h2, h3, h6, h7, h8, h10, h11, h14, h15, h16, h17, h18, h19, h22, h23, h24, h25, h26, h27, h30, h31, h32, h33] at hK ⊢
    clear h0 h2 h3 h6 h7 h8 h10 h11 h14 h15 h16 h17 h18 h19 h22 h23 h24 h25 h26 h27 h30 h31 h32 h33
    refine ite_yes (by rfl) ?_
    go_simp
    exact hK _ _ _ rfl (Grew.refl _) rfl
  refine ⟨?_, ?_⟩
  · intro y w2 hG hD K hK
    simp only [depsH, List.getD_cons_zero, List.getD_cons_succ, Is, and_true] at hD
    have h0 := hD.1
    have h1 := hD.2.1
    have h2 := hD.2.2.1
    have h3 := hD.2.2.2.1
    have h4 := hD.2.2.2.2.1
    have h5 := hD.2.2.2.2.2.1
    have h6 := hD.2.2.2.2.2.2.1
    have h7 := hD.2.2.2.2.2.2.2.1
    have h8 := hD.2.2.2.2.2.2.2.2.1
    have h9 := hD.2.2.2.2.2.2.2.2.2.1
    have h10 := hD.2.2.2.2.2.2.2.2.2.2.1
    have h11 := hD.2.2.2.2.2.2.2.2.2.2.2.1
    have h12 := hD.2.2.2.2.2.2.2.2.2.2.2.2.1
    have h13 := hD.2.2.2.2.2.2.2.2.2.2.2.2.2.1
    have h14 := hD.2.2.2.2.2.2.2.2.2.2.2.2.2.2.1
    have h15 := hD.2.2.2.2.2.2.2.2.2.2.2.2.2.2.2.1
    have h16 := hD.2.2.2.2.2.2.2.2.2.2.2.2.2.2.2.2.1
    have h17 := hD.2.2.2.2.2.2.2.2.2.2.2.2.2.2.2.2.2.1
    have h18 := hD.2.2.2.2.2.2.2.2.2.2.2.2.2.2.2.2.2.2.1
    have h19 := hD.2.2.2.2.2.2.2.2.2.2.2.2.2.2.2.2.2.2.2.1
    have h20 := hD.2.2.2.2.2.2.2.2.2.2.2.2.2.2.2.2.2.2.2.2.1
    have h21 := hD.2.2.2.2.2.2.2.2.2.2.2.2.2.2.2.2.2.2.2.2.2.1
    have h22 := hD.2.2.2.2.2.2.2.2.2.2.2.2.2.2.2.2.2.2.2.2.2.2.1
    have h23 := hD.2.2.2.2.2.2.2.2.2.2.2.2.2.2.2.2.2.2.2.2.2.2.2.1
    have h24 := hD.2.2.2.2.2.2.2.2.2.2.2.2.2.2.2.2.2.2.2.2.2.2.2.2.1
    have h25 := hD.2.2.2.2.2.2.2.2.2.2.2.2.2.2.2.2.2.2.2.2.2.2.2.2.2.1
    have h26 := hD.2.2.2.2.2.2.2.2.2.2.2.2.2.2.2.2.2.2.2.2.2.2.2.2.2.2.1
    have h27 := hD.2.2.2.2.2.2.2.2.2.2.2.2.2.2.2.2.2.2.2.2.2.2.2.2.2.2.2.1
    have h28 := hD.2.2.2.2.2.2.2.2.2.2.2.2.2.2.2.2.2.2.2.2.2.2.2.2.2.2.2.2.1
    have h29 := hD.2.2.2.2.2.2.2.2.2.2.2.2.2.2.2.2.2.2.2.2.2.2.2.2.2.2.2.2.2.1
    have h30 := hD.2.2.2.2.2.2.2.2.2.2.2.2.2.2.2.2.2.2.2.2.2.2.2.2.2.2.2.2.2.2.1
    have h31 := hD.2.2.2.2.2.2.2.2.2.2.2.2.2.2.2.2.2.2.2.2.2.2.2.2.2.2.2.2.2.2.2.1
    have h32 := hD.2.2.2.2.2.2.2.2.2.2.2.2.2.2.2.2.2.2.2.2.2.2.2.2.2.2.2.2.2.2.2.2.1
    have h33 := hD.2.2.2.2.2.2.2.2.2.2.2.2.2.2.2.2.2.2.2.2.2.2.2.2.2.2.2.2.2.2.2.2.2.1
    have h34 := hD.2.2.2.2.2.2.2.2.2.2.2.2.2.2.2.2.2.2.2.2.2.2.2.2.2.2.2.2.2.2.2.2.2.2
    clear hD
    generalize hA : fillL y _ _ = A at hK ⊢
    simp only [fillL, Act.put, List.setIfInBounds_toArray, List.set_cons_zero, List.set_cons_succ, List.getD_cons_zero, List.getD_cons_succ, Is] at hA
    subst hA
    simp only [h0, h2, h3, h6, h7, h8, h10, h11, h14, h15, h16, h17, h18, h19, h22, h23, h24, h25, h26, h27, h30, h31, h32, h33, h34] at hK ⊢
    clear h0 h2 h3 h6 h7 h8 h10 h11 h14 h15 h16 h17 h18 h19 h22 h23 h24 h25 h26 h27 h30 h31 h32 h33 h34
    refine ite_yes (by rfl) ?_
    go_simp
    have hh := Holds_any [] _ (.mk 1 0 0 ⟨#[]⟩ [] []) (okS_mk (by decide) kids_nil) _ w2 (DocAt.nil _) (leaf_nd 1 0 0 ⟨#[]⟩ (by unfold i64ok u64ok lenok; decide) _)
    rw [w27_m] at hh
    refine hh.mono ?_
    rintro r w3 ⟨rfl, hg3⟩
    exact hK _ _ _ rfl hg3 rfl
  refine ⟨?_, ?_⟩
  · intro y w2 hG hD K hK
    simp only [depsH, List.getD_cons_zero, List.getD_cons_succ, Is, and_true] at hD
    have h0 := hD.1
    have h1 := hD.2.1
    have h2 := hD.2.2.1
    have h3 := hD.2.2.2.1
    have h4 := hD.2.2.2.2.1
    have h5 := hD.2.2.2.2.2.1
    have h6 := hD.2.2.2.2.2.2.1
    have h7 := hD.2.2.2.2.2.2.2.1
    have h8 := hD.2.2.2.2.2.2.2.2.1
    have h9 := hD.2.2.2.2.2.2.2.2.2.1
    have h10 := hD.2.2.2.2.2.2.2.2.2.2.1
    have h11 := hD.2.2.2.2.2.2.2.2.2.2.2.1
    have h12 := hD.2.2.2.2.2.2.2.2.2.2.2.2.1
    have h13 := hD.2.2.2.2.2.2.2.2.2.2.2.2.2.1
    have h14 := hD.2.2.2.2.2.2.2.2.2.2.2.2.2.2.1
    have h15 := hD.2.2.2.2.2.2.2.2.2.2.2.2.2.2.2.1
    have h16 := hD.2.2.2.2.2.2.2.2.2.2.2.2.2.2.2.2.1
    have h17 := hD.2.2.2.2.2.2.2.2.2.2.2.2.2.2.2.2.2.1
    have h18 := hD.2.2.2.2.2.2.2.2.2.2.2.2.2.2.2.2.2.2.1
    have h19 := hD.2.2.2.2.2.2.2.2.2.2.2.2.2.2.2.2.2.2.2.1
    have h20 := hD.2.2.2.2.2.2.2.2.2.2.2.2.2.2.2.2.2.2.2.2.1
    have h21 := hD.2.2.2.2.2.2.2.2.2.2.2.2.2.2.2.2.2.2.2.2.2.1
    have h22 := hD.2.2.2.2.2.2.2.2.2.2.2.2.2.2.2.2.2.2.2.2.2.2.1
    have h23 := hD.2.2.2.2.2.2.2.2.2.2.2.2.2.2.2.2.2.2.2.2.2.2.2.1
    have h24 := hD.2.2.2.2.2.2.2.2.2.2.2.2.2.2.2.2.2.2.2.2.2.2.2.2.1
    have h25 := hD.2.2.2.2.2.2.2.2.2.2.2.2.2.2.2.2.2.2.2.2.2.2.2.2.2.1
    have h26 := hD.2.2.2.2.2.2.2.2.2.2.2.2.2.2.2.2.2.2.2.2.2.2.2.2.2.2.1
    have h27 := hD.2.2.2.2.2.2.2.2.2.2.2.2.2.2.2.2.2.2.2.2.2.2.2.2.2.2.2.1
    have h28 := hD.2.2.2.2.2.2.2.2.2.2.2.2.2.2.2.2.2.2.2.2.2.2.2.2.2.2.2.2.1
    have h29 := hD.2.2.2.2.2.2.2.2.2.2.2.2.2.2.2.2.2.2.2.2.2.2.2.2.2.2.2.2.2.1
    have h30 := hD.2.2.2.2.2.2.2.2.2.2.2.2.2.2.2.2.2.2.2.2.2.2.2.2.2.2.2.2.2.2.1
    have h31 := hD.2.2.2.2.2.2.2.2.2.2.2.2.2.2.2.2.2.2.2.2.2.2.2.2.2.2.2.2.2.2.2.1
    have h32 := hD.2.2.2.2.2.2.2.2.2.2.2.2.2.2.2.2.2.2.2.2.2.2.2.2.2.2.2.2.2.2.2.2.1
    have h33 := hD.2.2.2.2.2.2.2.2.2.2.2.2.2.2.2.2.2.2.2.2.2.2.2.2.2.2.2.2.2.2.2.2.2.1
    have h34 := hD.2.2.2.2.2.2.2.2.2.2.2.2.2.2.2.2.2.2.2.2.2.2.2.2.2.2.2.2.2.2.2.2.2.2.1
    have h35 := hD.2.2.2.2.2.2.2.2.2.2.2.2.2.2.2.2.2.2.2.2.2.2.2.2.2.2.2.2.2.2.2.2.2.2.2
    clear hD
    generalize hA : fillL y _ _ = A at hK ⊢
    simp only [fillL, Act.put, List.setIfInBounds_toArray, List.set_cons_zero, List.set_cons_succ, List.getD_cons_zero, List.getD_cons_succ, Is] at hA
    subst hA
    simp only [h0, h2, h3, h6, h7, h8, h10, h11, h14, h15, h16, h17, h18, h19, h22, h23, h24, h25, h26, h27, h30, h31, h32, h33, h34, h35] at hK ⊢
    clear h0 h2 h3 h6 h7 h8 h10 h11 h14 h15 h16 h17 h18 h19 h22 h23 h24 h25 h26 h27 h30 h31 h32 h33 h34 h35
    refine ite_yes (by rfl) ?_
    go_simp
    exact hK _ _ _ rfl (Grew.refl _) rfl
  refine ⟨?_, ?_⟩
  · intro y w2 hG hD K hK
    simp only [depsH, List.getD_cons_zero, List.getD_cons_succ, Is, and_true] at hD
    have h0 := hD.1
    have h1 := hD.2.1
    have h2 := hD.2.2.1
    have h3 := hD.2.2.2.1
    have h4 := hD.2.2.2.2.1
    have h5 := hD.2.2.2.2.2.1
    have h6 := hD.2.2.2.2.2.2.1
    have h7 := hD.2.2.2.2.2.2.2.1
    have h8 := hD.2.2.2.2.2.2.2.2.1
    have h9 := hD.2.2.2.2.2.2.2.2.2.1
    have h10 := hD.2.2.2.2.2.2.2.2.2.2.1
    have h11 := hD.2.2.2.2.2.2.2.2.2.2.2.1
    have h12 := hD.2.2.2.2.2.2.2.2.2.2.2.2.1
    have h13 := hD.2.2.2.2.2.2.2.2.2.2.2.2.2.1
    have h14 := hD.2.2.2.2.2.2.2.2.2.2.2.2.2.2.1
    have h15 := hD.2.2.2.2.2.2.2.2.2.2.2.2.2.2.2.1
    have h16 := hD.2.2.2.2.2.2.2.2.2.2.2.2.2.2.2.2.1
    have h17 := hD.2.2.2.2.2.2.2.2.2.2.2.2.2.2.2.2.2.1
    have h18 := hD.2.2.2.2.2.2.2.2.2.2.2.2.2.2.2.2.2.2.1
    have h19 := hD.2.2.2.2.2.2.2.2.2.2.2.2.2.2.2.2.2.2.2.1
    have h20 := hD.2.2.2.2.2.2.2.2.2.2.2.2.2.2.2.2.2.2.2.2.1
    have h21 := hD.2.2.2.2.2.2.2.2.2.2.2.2.2.2.2.2.2.2.2.2.2.1
    have h22 := hD.2.2.2.2.2.2.2.2.2.2.2.2.2.2.2.2.2.2.2.2.2.2.1
    have h23 := hD.2.2.2.2.2.2.2.2.2.2.2.2.2.2.2.2.2.2.2.2.2.2.2.1
    have h24 := hD.2.2.2.2.2.2.2.2.2.2.2.2.2.2.2.2.2.2.2.2.2.2.2.2.1
    have h25 := hD.2.2.2.2.2.2.2.2.2.2.2.2.2.2.2.2.2.2.2.2.2.2.2.2.2.1
    have h26 := hD.2.2.2.2.2.2.2.2.2.2.2.2.2.2.2.2.2.2.2.2.2.2.2.2.2.2.1
    have h27 := hD.2.2.2.2.2.2.2.2.2.2.2.2.2.2.2.2.2.2.2.2.2.2.2.2.2.2.2.1
    have h28 := hD.2.2.2.2.2.2.2.2.2.2.2.2.2.2.2.2.2.2.2.2.2.2.2.2.2.2.2.2.1
    have h29 := hD.2.2.2.2.2.2.2.2.2.2.2.2.2.2.2.2.2.2.2.2.2.2.2.2.2.2.2.2.2.1
    have h30 := hD.2.2.2.2.2.2.2.2.2.2.2.2.2.2.2.2.2.2.2.2.2.2.2.2.2.2.2.2.2.2.1
    have h31 := hD.2.2.2.2.2.2.2.2.2.2.2.2.2.2.2.2.2.2.2.2.2.2.2.2.2.2.2.2.2.2.2.1
    have h32 := hD.2.2.2.2.2.2.2.2.2.2.2.2.2.2.2.2.2.2.2.2.2.2.2.2.2.2.2.2.2.2.2.2.1
    have h33 := hD.2.2.2.2.2.2.2.2.2.2.2.2.2.2.2.2.2.2.2.2.2.2.2.2.2.2.2.2.2.2.2.2.2.1
    have h34 := hD.2.2.2.2.2.2.2.2.2.2.2.2.2.2.2.2.2.2.2.2.2.2.2.2.2.2.2.2.2.2.2.2.2.2.1
    have h35 := hD.2.2.2.2.2.2.2.2.2.2.2.2.2.2.2.2.2.2.2.2.2.2.2.2.2.2.2.2.2.2.2.2.2.2.2.1
    have h36 := hD.2.2.2.2.2.2.2.2.2.2.2.2.2.2.2.2.2.2.2.2.2.2.2.2.2.2.2.2.2.2.2.2.2.2.2.2
    clear hD
    generalize hA : fillL y _ _ = A at hK ⊢
    simp only [fillL, Act.put, List.setIfInBounds_toArray, List.set_cons_zero, List.set_cons_succ, List.getD_cons_zero, List.getD_cons_succ, Is] at hA
    subst hA
    simp only [h0, h2, h3, h6, h7, h8, h10, h11, h14, h15, h16, h17, h18, h19, h22, h23, h24, h25, h26, h27, h30, h31, h32, h33, h34, h35, h36] at hK ⊢
    clear h0 h2 h3 h6 h7 h8 h10 h11 h14 h15 h16 h17 h18 h19 h22 h23 h24 h25 h26 h27 h30 h31 h32 h33 h34 h35 h36
    refine ite_yes (by rfl) ?_
    go_simp
    exact hK _ _ _ rfl (Grew.refl _) rfl
  refine ⟨?_, ?_⟩
  · intro y w2 hG hD K hK
    simp only [depsH, List.getD_cons_zero, List.getD_cons_succ, Is, and_true] at hD
    have h0 := hD.1
    have h1 := hD.2.1
    have h2 := hD.2.2.1
    have h3 := hD.2.2.2.1
    have h4 := hD.2.2.2.2.1
    have h5 := hD.2.2.2.2.2.1
    have h6 := hD.2.2.2.2.2.2.1
    have h7 := hD.2.2.2.2.2.2.2.1
    have h8 := hD.2.2.2.2.2.2.2.2.1
    have h9 := hD.2.2.2.2.2.2.2.2.2.1
    have h10 := hD.2.2.2.2.2.2.2.2.2.2.1
    have h11 := hD.2.2.2.2.2.2.2.2.2.2.2.1
    have h12 := hD.2.2.2.2.2.2.2.2.2.2.2.2.1
    have h13 := hD.2.2.2.2.2.2.2.2.2.2.2.2.2.1
    have h14 := hD.2.2.2.2.2.2.2.2.2.2.2.2.2.2.1
    have h15 := hD.2.2.2.2.2.2.2.2.2.2.2.2.2.2.2.1
    have h16 := hD.2.2.2.2.2.2.2.2.2.2.2.2.2.2.2.2.1
    have h17 := hD.2.2.2.2.2.2.2.2.2.2.2.2.2.2.2.2.2.1
    have h18 := hD.2.2.2.2.2.2.2.2.2.2.2.2.2.2.2.2.2.2.1
    have h19 := hD.2.2.2.2.2.2.2.2.2.2.2.2.2.2.2.2.2.2.2.1
    have h20 := hD.2.2.2.2.2.2.2.2.2.2.2.2.2.2.2.2.2.2.2.2.1
    have h21 := hD.2.2.2.2.2.2.2.2.2.2.2.2.2.2.2.2.2.2.2.2.2.1
    have h22 := hD.2.2.2.2.2.2.2.2.2.2.2.2.2.2.2.2.2.2.2.2.2.2.1
    have h23 := hD.2.2.2.2.2.2.2.2.2.2.2.2.2.2.2.2.2.2.2.2.2.2.2.1
    have h24 := hD.2.2.2.2.2.2.2.2.2.2.2.2.2.2.2.2.2.2.2.2.2.2.2.2.1
    have h25 := hD.2.2.2.2.2.2.2.2.2.2.2.2.2.2.2.2.2.2.2.2.2.2.2.2.2.1
    have h26 := hD.2.2.2.2.2.2.2.2.2.2.2.2.2.2.2.2.2.2.2.2.2.2.2.2.2.2.1
    have h27 := hD.2.2.2.2.2.2.2.2.2.2.2.2.2.2.2.2.2.2.2.2.2.2.2.2.2.2.2.1
    have h28 := hD.2.2.2.2.2.2.2.2.2.2.2.2.2.2.2.2.2.2.2.2.2.2.2.2.2.2.2.2.1
    have h29 := hD.2.2.2.2.2.2.2.2.2.2.2.2.2.2.2.2.2.2.2.2.2.2.2.2.2.2.2.2.2.1
    have h30 := hD.2.2.2.2.2.2.2.2.2.2.2.2.2.2.2.2.2.2.2.2.2.2.2.2.2.2.2.2.2.2.1
    have h31 := hD.2.2.2.2.2.2.2.2.2.2.2.2.2.2.2.2.2.2.2.2.2.2.2.2.2.2.2.2.2.2.2.1
    have h32 := hD.2.2.2.2.2.2.2.2.2.2.2.2.2.2.2.2.2.2.2.2.2.2.2.2.2.2.2.2.2.2.2.2.1
    have h33 := hD.2.2.2.2.2.2.2.2.2.2.2.2.2.2.2.2.2.2.2.2.2.2.2.2.2.2.2.2.2.2.2.2.2.1
    have h34 := hD.2.2.2.2.2.2.2.2.2.2.2.2.2.2.2.2.2.2.2.2.2.2.2.2.2.2.2.2.2.2.2.2.2.2.1
    have h35 := hD.2.2.2.2.2.2.2.2.2.2.2.2.2.2.2.2.2.2.2.2.2.2.2.2.2.2.2.2.2.2.2.2.2.2.2.1
    have h36 := hD.2.2.2.2.2.2.2.2.2.2.2.2.2.2.2.2.2.2.2.2.2.2.2.2.2.2.2.2.2.2.2.2.2.2.2.2.1
    have h37 := hD.2.2.2.2.2.2.2.2.2.2.2.2.2.2.2.2.2.2.2.2.2.2.2.2.2.2.2.2.2.2.2.2.2.2.2.2.2
    clear hD
    generalize hA : fillL y _ _ = A at hK ⊢
    simp only [fillL, Act.put, List.setIfInBounds_toArray, List.set_cons_zero, List.set_cons_succ, List.getD_cons_zero, List.getD_cons_succ, Is] at hA
    subst hA
    simp only [h0, h2, h3, h6, h7, h8, h10, h11, h14, h15, h16, h17, h18, h19, h22, h23, h24, h25, h26, h27, h30, h31, h32, h33, h34, h35, h36, h37] at hK ⊢
    clear h0 h2 h3 h6 h7 h8 h10 h11 h14 h15 h16 h17 h18 h19 h22 h23 h24 h25 h26 h27 h30 h31 h32 h33 h34 h35 h36 h37
    refine ite_yes (by rfl) ?_
    go_simp
    exact hK _ _ _ rfl (Grew.refl _) rfl
  trivial
end Go.Proofs.Ytlhliolknaopjaa

/-
  Denote: how a law's bytes read. Conditions: the argument can be read as data.
-/
namespace Go.Proofs.Ytlhliolknaopjaa
open Go Go.ChangeShapes Go.WideShapes Go.ChangeAt Go.RowKit Go.Joins Go.Deep
set_option linter.unusedVariables false
set_option linter.unusedSimpArgs false

theorem cells_u8 : Try.prog.cellsOf 5 = 1 := by kernel_rfl
set_option maxRecDepth 100000 in
theorem open_bytes {H : Type} {enc : TypeId × Value → H} {W : World} {base : Nat} {v : Value} {d : DataW H} {p : List MemPlace} (o : Value.okWide Try.prog W .any base 22 v) (k : DataW.Trod enc Try.prog W 0 (fun _ => true) true 22 v d p) : ∃ l : List UInt8, BytesAt W v l ∧ l.length ≤ 9223372036854775807 := by
  obtain ⟨a1, len, cap, rfl⟩ := okWide_slice Try.underlying22 o
  obtain ⟨fuel, hf⟩ := k
  rcases open_ints Try.underlying22 Try.underlying5 cells_u8 hf with ⟨hcs, hx⟩ | ⟨a, len', cap', zs, hcs, _, hl, hm, hz, hx, hcell, hwz⟩
  · simp [Value.cells] at hcs
    obtain ⟨rfl, rfl, rfl⟩ := hcs
    exact ⟨[], BytesAt.nil W, by simp⟩
  · simp [Value.cells] at hcs
    obtain ⟨rfl, rfl, rfl⟩ := hcs
    simp only [if_true] at hz
    have hlen : ((zs.take len).map fun n => UInt8.ofNat n.toNat).length = len := by simp; omega
    have hmm : len ≤ 9223372036854775807 := Nat.le_trans hl (by unfold maxLen at hm; exact hm)
    refine ⟨(zs.take len).map fun n => UInt8.ofNat n.toNat, ⟨some a, cap, by rw [hlen], by rw [hlen]; exact hl, fun h => (by cases h), fun j b hb => ?_⟩, by rw [hlen]; exact hmm⟩
    have hj : j < len := by have := (List.getElem?_eq_some_iff.1 hb).1; rw [hlen] at this; exact this
    obtain ⟨ab, ao, spot⟩ := a
    have hspot : spot = none := by simpa [Addr.add] using World.cell?_spot (hcell 0 (by omega))
    subst hspot
    refine ⟨ab, ao, rfl, ?_⟩
    have hcj := hcell j (by omega)
    rw [Addr.add_lit] at hcj
    rw [hcj]
    have hr := range_u8 hwz j
    have e : zs.getD j 0 = zs[j]'(by omega) := by simp [List.getD, List.getElem?_eq_getElem (show j < zs.length by omega)]
    have hb2 := (List.getElem?_eq_some_iff.1 hb).2
    simp only [List.getElem_map, List.getElem_take] at hb2
    rw [List.getD_eq_getElem?_getD] at e
    rw [e] at hr
    rw [← hb2, List.getD_eq_getElem?_getD, e]
    congr 2
    simp only [UInt8.toNat_ofNat']
    omega
end Go.Proofs.Ytlhliolknaopjaa

/-
  A node stored into a node variable: one law. Conditions: the variable's block is there.
-/
namespace Go.Proofs.Ytlhliolknaopjaa
open Go Go.ChangeShapes Go.WideShapes Go.ChangeAt Go.RowKit Go.Joins Go.Deep
set_option linter.unusedVariables false
set_option linter.unusedSimpArgs false

set_option maxRecDepth 100000 in
theorem wp_store6 {o : Oper} {a : Act} {w : World} {K : Act → World → Prop} {Q : Exit → Act → World → Prop} (p x : Operand) (ho : o.op = .store 27 p x) (hd : o.dst = none) (g : Nat) (k n u : Int) (s : ByteArray) (a4 : Option Addr) (n4 c4 : Nat) (a5 : Option Addr) (n5 c5 : Nat)
    (hp : a.eval p = .pointer (some ⟨g, 0, none⟩)) (hx : a.eval x = .agg #[.int .i64 k, .int .i64 n, .int .u64 u, .string s, .slice a4 n4 c4, .slice a5 n5 c5]) (b0 b1 b2 b3 b4 b5 : Value)
    (hz : w.heap[g]? = some (.cells #[b0, b1, b2, b3, b4, b5] 27 (0, 0)))
    (h : ∀ w', Moved (fun k => k = g) w w' → w'.heap[g]? = some (.cells #[.int .i64 k, .int .i64 n, .int .u64 u, .string s, .slice a4 n4 c4, .slice a5 n5 c5] 27 (0, 0)) → K a w') : o.wp Try.prog a w K Q := by
  have hk := h _ (moved_store6 w g (.int .i64 k) (.int .i64 n) (.int .u64 u) (.string s) (.slice a4 n4 c4) (.slice a5 n5 c5)) (heap_store6 hz _ _ _ _ _ _)
  have HK := Lib.hid hk
  clear h hk
  have z0 := row_cellT hz 0 _ rfl
  have z1 := row_cellT hz 1 _ rfl
  have z2 := row_cellT hz 2 _ rfl
  have z3 := row_cellT hz 3 _ rfl
  have z4 := row_cellT hz 4 _ rfl
  have z5 := row_cellT hz 5 _ rfl
  have f0 := row_frozen hz 0
  have f1 := row_frozen hz 1
  have f2 := row_frozen hz 2
  have f3 := row_frozen hz 3
  have f4 := row_frozen hz 4
  have f5 := row_frozen hz 5
  clear hz
  unfold Oper.wp execOp
  simp only [ho]
  rw [hp, hx]
  simp [hd, go_sem, z0, z1, z2, z3, z4, z5, f0, f1, f2, f3, f4, f5]
  exact HK.out
theorem wpList_store6 {ops : Array Oper} {rest : List Oper} {o : Oper} {a : Act} {w : World} {Q : Exit → Act → World → Prop} (hgd : o.guard = none) (p x : Operand) (ho : o.op = .store 27 p x) (hd : o.dst = none) (g : Nat) (k n u : Int) (s : ByteArray) (a4 : Option Addr) (n4 c4 : Nat) (a5 : Option Addr) (n5 c5 : Nat)
    (hp : a.eval p = .pointer (some ⟨g, 0, none⟩)) (hx : a.eval x = .agg #[.int .i64 k, .int .i64 n, .int .u64 u, .string s, .slice a4 n4 c4, .slice a5 n5 c5]) (b0 b1 b2 b3 b4 b5 : Value)
    (hz : w.heap[g]? = some (.cells #[b0, b1, b2, b3, b4, b5] 27 (0, 0)))
    (h : ∀ w', Moved (fun k => k = g) w w' → w'.heap[g]? = some (.cells #[.int .i64 k, .int .i64 n, .int .u64 u, .string s, .slice a4 n4 c4, .slice a5 n5 c5] 27 (0, 0)) → wpList Try.prog ops Q rest a w') : wpList Try.prog ops Q (o :: rest) a w :=
  wpList_plain hgd fun _ hK => wp_store6 p x ho hd g k n u s a4 n4 c4 a5 n5 c5 hp hx b0 b1 b2 b3 b4 b5 hz fun w' hm hb => hK _ _ (h w' hm hb)
end Go.Proofs.Ytlhliolknaopjaa

/-
  Plain lemma, no program: a region that leaves its order open, a tail of it in the text's order; its operations may lay down blocks of their own.
-/
namespace Go.Proofs.Ytlhliolknaopjaa
set_option linter.unusedSimpArgs false
set_option linter.unusedVariables false
open Go Go.RowKit
section
variable {P : Program} {ops : Array Oper}
/-- What an operation says of its own blocks: new ones alone. -/
def sepOK (q : Option (Value → (Nat → Prop) → World → Prop)) (v : Value) (w w' : World) : Prop := match q with | none => True | some ψ => ∃ S : Nat → Prop, ψ v S w' ∧ ∀ g, S g → w.heap.size ≤ g ∧ g < w'.heap.size
/-- The blocks of the operations that have been: each as it was said, all apart. -/
structure SepI (Ψ : Nat → Option (Value → (Nat → Prop) → World → Prop)) (L : Nat → Prop) (y : Nat → Value) (σ : Nat → Nat → Prop) (w0 w : World) : Prop where
  said : ∀ j, L j → ∀ ψ, Ψ j = some ψ → ψ (y j) (σ j) w
  bound : ∀ j, L j → ∀ g, σ j g → w0.heap.size ≤ g ∧ g < w.heap.size
  apart : ∀ j k, L j → L k → j ≠ k → ∀ g, σ j g → ¬ σ k g
theorem SepI.sub {Ψ : Nat → Option (Value → (Nat → Prop) → World → Prop)} {L L' : Nat → Prop} {y : Nat → Value} {σ : Nat → Nat → Prop} {w0 w : World} (h : SepI Ψ L y σ w0 w) (hs : ∀ j, L' j → L j) : SepI Ψ L' y σ w0 w :=
  ⟨fun j hj => h.said j (hs j hj), fun j hj => h.bound j (hs j hj), fun j k hj hk => h.apart j k (hs j hj) (hs k hk)⟩
theorem SepI.step {Ψ : Nat → Option (Value → (Nat → Prop) → World → Prop)} {R : World → World → Prop} {L : Nat → Prop} {y : Nat → Value} {σ : Nat → Nat → Prop} {w0 w w' : World} (h : SepI Ψ L y σ w0 w) (hsz : ∀ a b, R a b → a.heap.size ≤ b.heap.size) (hsΨ : ∀ j ψ, Ψ j = some ψ → ∀ v S w w', R w w' → ψ v S w → ψ v S w')
    (i : Nat) (v : Value) (hg : R w0 w) (hr : R w w') (hse : sepOK (Ψ i) v w w') : ∃ σ2, SepI Ψ (fun j => (L j ∧ j ≠ i) ∨ j = i) (fun k => if k = i then v else y k) σ2 w0 w' := by
  obtain ⟨S, hS, hb⟩ : ∃ S : Nat → Prop, (∀ ψ, Ψ i = some ψ → ψ v S w') ∧ ∀ g, S g → w.heap.size ≤ g ∧ g < w'.heap.size := by
    cases hq : Ψ i with
    | none => exact ⟨fun _ => False, fun ψ e => (by cases e), fun g h => h.elim⟩
    | some ψ =>
      rw [hq] at hse
      obtain ⟨S, h1, h2⟩ := hse
      exact ⟨S, fun ψ' e => by cases e; exact h1, h2⟩
  have h1 := hsz _ _ hg
  have h2 := hsz _ _ hr
  refine ⟨fun k => if k = i then S else σ k, fun j hj ψ hψ => ?_, fun j hj g hs => ?_, fun j k hj hk hne g hs => ?_⟩
  · by_cases hji : j = i
    · subst hji; simp only [if_true]; exact hS ψ hψ
    · simp only [hji, if_false]
      exact hsΨ j ψ hψ _ _ _ _ hr (h.said j ((hj.resolve_right hji).1) ψ hψ)
  · by_cases hji : j = i
    · subst hji; simp only [if_true] at hs; have := hb g hs; omega
    · simp only [hji, if_false] at hs; have := h.bound j ((hj.resolve_right hji).1) g hs; omega
  · by_cases hji : j = i
    · by_cases hki : k = i
      · exact absurd (hji.trans hki.symm) hne
      · simp only [hji, hki, if_true, if_false] at hs ⊢
        intro hk2; have := h.bound k ((hk.resolve_right hki).1) g hk2; have := hb g hs; omega
    · by_cases hki : k = i
      · simp only [hji, hki, if_true, if_false] at hs ⊢
        intro hk2; have := h.bound j ((hj.resolve_right hji).1) g hs; have := hb g hk2; omega
      · simp only [hji, hki, if_false] at hs ⊢
        exact h.apart j k ((hj.resolve_right hji).1) ((hk.resolve_right hki).1) hne g hs
def opWordS (P : Program) (ops : Array Oper) (R : World → World → Prop) (D : Array (List Nat)) (Φ : Nat → Value → World → Prop) (Ψ : Nat → Option (Value → (Nat → Prop) → World → Prop)) (a0 : Act) (w0 : World) (i : Nat) (o : Oper) : Prop :=
  ∀ (y : Nat → Value) (w : World), R w0 w → (∀ j ∈ D.getD i [], Φ j (y j) w) → ∀ K : Act → World → Prop,
    (∀ v w', R w w' → Φ i v w' → sepOK (Ψ i) v w w' → K ((fillL y (canonL ops D i) a0).put o.dst v) w') →
    if Region.wanted o (yielded ops (fillL y (canonL ops D i) a0).tmps) then o.wp P (fillL y (canonL ops D i) a0) w K (fun _ _ _ => False) else K ((fillL y (canonL ops D i) a0).put o.dst undef) w
def wordS (P : Program) (ops : Array Oper) (R : World → World → Prop) (Φ : List (Value → World → Prop)) (Ψ : List (Option (Value → (Nat → Prop) → World → Prop))) (a0 : Act) (w0 : World) (i : Nat) (o : Oper) (d : List Nat) (c : List (Nat × Nat)) : Prop :=
  ∀ (y : Nat → Value) (w : World), R w0 w → depsH Φ y w d → ∀ K : Act → World → Prop,
    (∀ a' v w', a' = (fillL y c a0).put o.dst v → R w w' → Φ.getD i (fun _ _ => True) v w' → sepOK (Ψ.getD i none) v w w' → K a' w') →
    if Region.wanted o (yielded ops (fillL y c a0).tmps) then o.wp P (fillL y c a0) w K (fun _ _ _ => False) else K ((fillL y c a0).put o.dst undef) w
def allWS (P : Program) (ops : Array Oper) (R : World → World → Prop) (Φ : List (Value → World → Prop)) (Ψ : List (Option (Value → (Nat → Prop) → World → Prop))) (a0 : Act) (w0 : World) : Nat → List Oper → List (List Nat) → List (List (Nat × Nat)) → Prop
  | _, [], _, _ => True
  | i, o :: r, d :: ds, c :: cs => wordS P ops R Φ Ψ a0 w0 i o d c ∧ allWS P ops R Φ Ψ a0 w0 (i + 1) r ds cs
  | _, _ :: _, _, _ => False
def stS (R : World → World → Prop) : List (Option (Value → (Nat → Prop) → World → Prop)) → Prop
  | [] => True
  | none :: r => stS R r
  | some ψ :: r => (∀ v S w w', R w w' → ψ v S w → ψ v S w') ∧ stS R r
theorem stS_get {R : World → World → Prop} : ∀ {Ψ : List (Option (Value → (Nat → Prop) → World → Prop))}, stS R Ψ → ∀ j ψ, Ψ.getD j none = some ψ → ∀ v S w w', R w w' → ψ v S w → ψ v S w'
  | [], _, j, ψ, h => by simp at h
  | q :: r, hs, 0, ψ, h => by
    simp at h; subst h
    exact hs.1
  | none :: r, hs, j + 1, ψ, h => by
    simp only [List.getD_cons_succ] at h
    exact stS_get (Ψ := r) hs j ψ h
  | some _ :: r, hs, j + 1, ψ, h => by
    simp only [List.getD_cons_succ] at h
    exact stS_get (Ψ := r) hs.2 j ψ h
theorem allW_takeS {R : World → World → Prop} {Φ : List (Value → World → Prop)} {Ψ : List (Option (Value → (Nat → Prop) → World → Prop))} {a0 : Act} {w0 : World} (D0 : List (List Nat)) (C0 : List (List (Nat × Nat))) (hC : ∀ i, i < ops.size → C0.getD i [] = canonL ops D0.toArray i) :
    ∀ (l : List Oper) (i : Nat) (D : List (List Nat)) (C : List (List (Nat × Nat))), i + l.length ≤ ops.size → (∀ k, D[k]? = D0[i + k]?) → (∀ k, C[k]? = C0[i + k]?) → allWS P ops R Φ Ψ a0 w0 i l D C →
      allWords (opWordS P ops R D0.toArray (fun j => Φ.getD j (fun _ _ => True)) (fun j => Ψ.getD j none) a0 w0) i l := by
    intro l
    induction l with
    | nil => intros; trivial
    | cons o r ih =>
      intro i D C hl hD hC' h
      match D, C, h with
      | d :: ds, c :: cs, h =>
        obtain ⟨h1, h2⟩ := h
        refine ⟨?_, ih (i + 1) ds cs (by simp at hl; omega) (fun k => ?_) (fun k => ?_) h2⟩
        · have hd : D0.toArray.getD i [] = d := by
            have := hD 0
            simp at this
            simp [Array.getD_eq_getD_getElem?, ← this]
          have hc : canonL ops D0.toArray i = c := by
            rw [← hC i (by simp at hl; omega)]
            have := hC' 0
            simp at this
            simp [List.getD_eq_getElem?_getD, ← this]
          intro y w hR hj K hK
          rw [hd] at hj
          rw [hc] at hK ⊢
          exact h1 y w hR (depsH_of _ hj) K (fun a' v w' he hr hφ hs => by subst he; exact hK v w' hr hφ hs)
        · have := hD (k + 1)
          simp at this
          rw [this]; congr 1; omega
        · have := hC' (k + 1)
          simp at this
          rw [this]; congr 1; omega

theorem wpAny_of_factsS {R : World → World → Prop} {D : Array (List Nat)} {Φ : Nat → Value → World → Prop} {Ψ : Nat → Option (Value → (Nat → Prop) → World → Prop)} {a0 : Act} {w0 : World} {Q : Exit → Act → World → Prop}
    (hRt : ∀ {a b c : World}, R a b → R b c → R a c) (hchk : factsOK ops D = true) (hst : ∀ j v w w', R w w' → Φ j v w → Φ j v w') (hrr : ∀ w, R w w) (hsz : ∀ a b, R a b → a.heap.size ≤ b.heap.size) (hsΨ : ∀ j ψ, Ψ j = some ψ → ∀ v S w w', R w w' → ψ v S w → ψ v S w')
    {n : Nat} (hop : ∀ i o, i < n → ops[i]? = some o → opWordS P ops R D Φ Ψ a0 w0 i o) (hn : n < ops.size) (hs : Region.sinkB .any ops n = true) (hc : Region.chainB .any ops n = true)
    (hq : Region.seqB .any ops (ops.size - n) n (headA ops n) = true)
    (hfin : ∀ y w, R w0 w → (∀ j, j < n → Φ j (y j) w) → (∃ σ, SepI Ψ (fun j => j < n) y σ w0 w) → wpList P ops Q (ops.toList.drop n) (fillL y ((pairsOf ops).filter fun q => decide (q.2 < n)) a0) w) :
    ∀ (f : Nat) (listed : Array Bool) (a : Act) (w : World) (y : Nat → Value), ((List.range n).filter fun j => !listed.getD j true).length ≤ f →
      InvF ops R D Φ a0 w0 listed a w y → HeadInv .any ops n listed → (∃ σ, SepI Ψ (fun j => listed.getD j false = true) y σ w0 w) → wpAny P .any ops Q (f + (ops.size - n)) listed a w := by
  simp only [factsOK, Bool.and_eq_true, List.all_eq_true, List.mem_range] at hchk
  obtain ⟨hkeys, hrows⟩ := hchk
  -- nothing ready: all has been listed
  have hall : ∀ (listed : Array Bool), listed.size = ops.size → Region.ready .any ops listed = [] → ∀ j, j < ops.size → listed.getD j false = true := by
    intro listed hs hnil j
    induction j using Nat.strongRecOn with
    | ind j ih =>
      intro hj
      cases hl : listed.getD j false with
      | true => rfl
      | false =>
        exfalso
        have hmem : j ∈ Region.ready .any ops listed := by
          rw [mem_ready]
          refine ⟨by rw [listed_cases (by omega)]; exact hl, ops[j], Array.getElem?_eq_getElem hj, fun e he hb => ?_⟩
          have hrow := hrows j hj
          rw [Array.getElem?_eq_getElem hj] at hrow
          simp only [Bool.and_eq_true, List.all_eq_true, decide_eq_true_eq] at hrow
          have hlt := hrow.1 e.on (List.mem_map.2 ⟨e, List.mem_filter.2 ⟨by simpa using he, hb⟩, rfl⟩)
          exact ih e.on hlt (by omega)
        rw [hnil] at hmem
        cases hmem
  -- the head has been listed
  have hdone : ∀ (m : Nat) (listed : Array Bool) (a : Act) (w : World) (y : Nat → Value), InvF ops R D Φ a0 w0 listed a w y → HeadInv .any ops n listed → (∃ σ, SepI Ψ (fun j => listed.getD j false = true) y σ w0 w) → (∀ j, j < n → listed.getD j false = true) → wpAny P .any ops Q (m + (ops.size - n)) listed a w := by
    intro m listed a w y hI hH hS hl
    have he : listed = headA ops n := headA_eq hI.size (by omega) hl hH.tail
    have hlen : (ops.toList.drop n).length = ops.size - n := by simp
    have hw := hfin y w hI.grown (fun j hj => hI.facts j (hl j hj)) (hS.imp fun σ h => h.sub fun j hj => hl j hj)
    rw [fillL_filter y _ _ a0 hkeys, ← hI.act] at hw
    · rw [Nat.add_comm, ← hlen]
      refine wpAny_seq_more (ops.toList.drop n) m n listed a w (fun j => by simp) ?_ hw
      rw [hlen, he]; exact hq
    · rintro ⟨d, j⟩ hq' hp
      simp only [decide_eq_false_iff_not] at hp
      have hdst := mem_pairsOf.1 hq'
      have hj : j < ops.size := by
        rcases Nat.lt_or_ge j ops.size with h' | h'
        · exact h'
        · rw [Array.getElem?_eq_none h'] at hdst; cases hdst
      exact hI.open_ j d (hH.tail j (by omega) hj) hdst
  intro f
  induction f with
  | zero =>
    intro listed a w y hlen hI hH hS
    refine hdone 0 listed a w y hI hH hS fun j hj => ?_
    cases hl : listed.getD j false with
    | true => rfl
    | false =>
      exfalso
      have h0 : ((List.range n).filter fun j => !listed.getD j true) = [] := List.length_eq_zero_iff.1 (by omega)
      have : j ∈ ((List.range n).filter fun j => !listed.getD j true) := List.mem_filter.2 ⟨List.mem_range.2 hj, by rw [listed_cases (by rw [hI.size]; omega), hl]; rfl⟩
      rw [h0] at this; cases this
  | succ fuel ih =>
    intro listed a w y hlen hI hH hS
    by_cases hh : ∀ j, j < n → listed.getD j false = true
    · exact hdone (fuel + 1) listed a w y hI hH hS hh
    obtain ⟨j0, hj0, hl0⟩ : ∃ j, j < n ∧ listed.getD j true = false := by
      apply Classical.byContradiction
      intro hno
      refine hh fun j hj => ?_
      cases hl : listed.getD j false with
      | true => rfl
      | false => exact absurd ⟨j, hj, by rw [listed_cases (by rw [hI.size]; omega)]; exact hl⟩ hno
    rw [show fuel + 1 + (ops.size - n) = (fuel + (ops.size - n)) + 1 by omega]
    refine ⟨fun hnil => ?_, fun i hi => ?_⟩
    · have := hall listed hI.size hnil j0 (by omega)
      rw [← listed_cases (by rw [hI.size]; omega), hl0] at this; cases this
    have hin : i < n := by
      rcases Nat.lt_or_ge i n with h | h
      · exact h
      · exact absurd hi (tail_waits hs hc hn hH _ j0 rfl hj0 hl0 i h)
    obtain ⟨hun, o, ho, hedges⟩ := mem_ready.1 hi
    have hilt : i < ops.size := (Array.getElem?_eq_some_iff.1 ho).1
    have hunf : listed.getD i false = false := by rw [← listed_cases (by rw [hI.size]; exact hilt)]; exact hun
    have hrow := hrows i hilt
    rw [ho] at hrow
    simp only [Bool.and_eq_true, List.all_eq_true, decide_eq_true_eq, List.any_eq_true, Bool.or_eq_true, beq_iff_eq, List.contains_iff_mem] at hrow
    -- what i waits for has been listed
    have hD : ∀ k ∈ D.getD i [], listed.getD k false = true := by
      intro k hk
      obtain ⟨e, he, hek⟩ := hrow.2 k hk
      obtain ⟨ed, hed, rfl⟩ := List.mem_map.1 he
      obtain ⟨hed1, hed2⟩ := List.mem_filter.1 hed
      have hl := hedges ed (by simpa using hed1) hed2
      rcases hek with rfl | hek
      · exact hl
      · exact hI.closed _ hl k hek
    have hcan : fillL y (canonL ops D i) a0 = a := by
      rw [hI.act]
      refine fillL_filter y _ _ a0 hkeys ?_
      rintro ⟨d, j⟩ hq hp
      simp only [Bool.not_eq_false', Bool.or_eq_true, beq_iff_eq] at hp
      have hdst := mem_pairsOf.1 hq
      refine hI.open_ j d ?_ hdst
      rcases hp with rfl | hw
      · exact hun
      · have hjlt : j < listed.size := by
          rw [hI.size]
          rcases Nat.lt_or_ge j ops.size with h' | h'
          · exact h'
          · rw [Array.getElem?_eq_none h'] at hdst; cases hdst
        rw [listed_cases hjlt]
        cases hl : listed.getD j false with
        | false => rfl
        | true =>
          have := hI.closed j hl i (by simpa [waits] using hw)
          rw [hunf] at this
          cases this
    have hw := hop i o hin ho y w hI.grown (fun j hj => hI.facts j (hD j hj)) (fun a' w' => ∃ v, a' = a.put o.dst v ∧ R w w' ∧ Φ i v w' ∧ sepOK (Ψ i) v w w')
    rw [hcan] at hw
    have hlen' : ((List.range n).filter fun j => !(listed.setIfInBounds i true).getD j true).length ≤ fuel := by
      have : ((List.range n).filter fun j => !(listed.setIfInBounds i true).getD j true).length < ((List.range n).filter fun j => !listed.getD j true).length := by
        refine filter_lt _ i (fun j hj => ?_) (List.mem_range.2 hin) (by rw [hun]; rfl) ?_
        · by_cases hij : i = j
          · subst hij
            have h2 : i < listed.size := by rw [hI.size]; exact hilt
            simp [h2] at hj
          · rw [getD_set_ne true hij] at hj; exact hj
        · have h2 : i < listed.size := by rw [hI.size]; exact hilt
          simp [h2]
      omega
    have hnext : ∀ v w', R w w' → Φ i v w' → sepOK (Ψ i) v w w' → wpAny P .any ops Q (fuel + (ops.size - n)) (listed.setIfInBounds i true) (a.put o.dst v) w' := by
      intro v w' hr hφ hse
      have h2 : i < listed.size := by rw [hI.size]; exact hilt
      refine ih _ _ _ (fun k => if k = i then v else y k) hlen' ⟨by simp [hI.size], ?_, hRt hI.grown hr, ?_, ?_, ?_⟩ (hH.set hi hin) ?_
      · cases hd : o.dst with
        | none =>
          rw [hI.act]
          show fillL y (pairsOf ops) a0 = _
          refine fillL_congr _ _ _ _ fun p hp => ?_
          have := mem_pairsOf.1 (show (p.1, p.2) ∈ pairsOf ops from hp)
          have hne : p.2 ≠ i := fun he => by rw [he, ho] at this; simp [hd] at this
          simp [hne]
        | some d =>
          rw [hI.act, fillL_set y i v _ a0 d hkeys (mem_pairsOf.2 (by simp [ho, hd]))]
      · intro j hj
        by_cases hji : j = i
        · subst hji; simpa using hφ
        · simp only [hji, if_false]
          rw [getD_set_ne false (Ne.symm hji)] at hj
          exact hst j _ _ _ hr (hI.facts j hj)
      · intro j d hj hdst
        have hji : j ≠ i := fun he => by subst he; simp [h2] at hj
        simp only [hji, if_false]
        rw [getD_set_ne true (Ne.symm hji)] at hj
        exact hI.open_ j d hj hdst
      · intro j hj k hk
        by_cases hji : j = i
        · subst hji; exact getD_set_true (hD k hk)
        · rw [getD_set_ne false (Ne.symm hji)] at hj
          exact getD_set_true (hI.closed j hj k hk)
      · obtain ⟨σ, hσ⟩ := hS
        obtain ⟨σ2, h3⟩ := hσ.step hsz hsΨ i v hI.grown hr hse
        exact ⟨σ2, h3.sub fun j hj => by
          by_cases hji : j = i
          · exact .inr hji
          · rw [getD_set_ne false (Ne.symm hji)] at hj; exact .inl ⟨hj, hji⟩⟩
    unfold wpOp
    simp only [ho]
    have hw2 := hw (fun v w' hr hφ hse => ⟨v, rfl, hr, hφ, hse⟩)
    split at hw2
    · rename_i hwa
      rw [if_pos hwa]
      refine .inl ?_
      have h3 : o.wp P a w (wpAny P .any ops Q (fuel + (ops.size - n)) (listed.setIfInBounds i true)) (fun _ _ _ => False) :=
        Oper.wp_mono (fun a' w' ⟨v, he, hr, hφ, hse⟩ => by subst he; exact hnext v w' hr hφ hse) hw2
      exact wp_exit h3
    · rename_i hwa
      rw [if_neg hwa]
      obtain ⟨v, he, hr, hφ, hse⟩ := hw2
      rw [he]
      exact hnext v w hr hφ hse
where
  wp_exit {o : Oper} {a : Act} {w : World} {K : Act → World → Prop} {Q : Exit → Act → World → Prop} (h : o.wp P a w K (fun _ _ _ => False)) : o.wp P a w K Q := by
    unfold Oper.wp at *
    generalize (execOp a.eval o).run P w = r at *
    cases r with
    | ok n w' =>
      cases n <;> simp only [Oper.upon] at h ⊢
      case enter f args =>
        refine Calls.mono h fun e w'' he => ?_
        cases e with
        | returned v => exact he
        | panicked c => exact he.elim
        | outgrown => obtain ⟨_, _, hq⟩ := he; exact hq.elim
      all_goals exact h
    | halt x w' => cases x <;> simp only [Oper.upon] at h

/-- **A region that draws its order, a tail of it in order; the tables written out (n: the operations ahead of the tail; F: their pairs).** -/
theorem wp_region_tablesS {id : Nat} {a0 : Act} {w0 : World} {Q : Exit → Act → World → Prop} (R : World → World → Prop) (n : Nat) (D : List (List Nat)) (C : List (List (Nat × Nat))) (F : List (Nat × Nat)) (Φ : List (Value → World → Prop)) (Ψ : List (Option (Value → (Nat → Prop) → World → Prop))) (hm : P.follows .mixedOrders = true)
    (hRt : ∀ {a b c : World}, R a b → R b c → R a c) (hrr : ∀ w, R w w) (hd : R w0 w0.drew)
    (hchk : (tablesOK ops D C (pairsOf ops) && decide (F = (pairsOf ops).filter fun q => decide (q.2 < n)) && decide (n < ops.size) && Region.sinkB .any ops n && Region.chainB .any ops n && Region.seqB .any ops (ops.size - n) n (headA ops n)) = true) (hst : stL R Φ) (hsz : ∀ a b, R a b → a.heap.size ≤ b.heap.size) (hsΨ : stS R Ψ)
    (hlen : Φ.length = n)
    (hop : allWS P ops R Φ Ψ a0 w0 0 (ops.toList.take n) D C)
    (hfin : ∀ y w, R w0 w → factsH y w 0 Φ → (∃ σ, SepI (fun j => Ψ.getD j none) (fun j => j < n) y σ w0 w) → wpList P ops Q (ops.toList.drop n) (fillL y F a0) w) : (Code.region id ops true).wp P Q a0 w0 := by
  simp only [Bool.and_eq_true, decide_eq_true_eq] at hchk
  obtain ⟨⟨⟨⟨⟨hchk, hF⟩, hn⟩, hs⟩, hc⟩, hq⟩ := hchk
  simp only [tablesOK, Bool.and_eq_true, decide_eq_true_eq, List.all_eq_true, List.mem_range] at hchk
  obtain ⟨⟨h1, h2⟩, h3⟩ := hchk
  subst hF
  refine wp_region_any hm ?_
  have hfuel : ops.size = n + (ops.size - n) := by omega
  rw [show wpAny P .any ops Q ops.size = wpAny P .any ops Q (n + (ops.size - n)) by rw [← hfuel]]
  refine wpAny_of_factsS (R := R) (D := D.toArray) (Φ := fun j => Φ.getD j (fun _ _ => True)) (Ψ := fun j => Ψ.getD j none) (a0 := a0) (w0 := w0) hRt h1 ?_ hrr hsz ?_ (n := n) (fun i o hi ho => ?_) hn hs hc hq (fun y w hr hf hS => hfin y w hr (factsH_of Φ 0 (by simp) (fun j h => hf j (by omega))) hS) n _ a0 _ (fun j => match (ops[j]?).bind (·.dst) with | some d => a0.tmps.getD d undef | none => undef) ?_ ⟨by simp, ?_, hd, ?_, ?_, ?_⟩ ⟨by simp, fun j oj _ hl => (by rw [getD_replicate_false] at hl; cases hl), fun t _ ht => getD_in (by simpa using ht) (getD_replicate_false _ _)⟩ ⟨fun _ _ => False, fun j hl => (by rw [getD_replicate_false] at hl; cases hl), fun j _ g h => h.elim, fun j k _ _ _ g h => h.elim⟩
  · intro j v w w' hr hφ
    rcases Nat.lt_or_ge j Φ.length with hj | hj
    · have e : Φ.getD j (fun _ _ => True) = Φ[j] := by simp [List.getD_eq_getElem?_getD, hj]
      simp only [e] at hφ ⊢
      exact stL_mem Φ hst _ (List.getElem_mem hj) v w w' hr hφ
    · have e : Φ.getD j (fun _ _ => True) = fun _ _ => True := by simp [List.getD_eq_getElem?_getD, hj]
      simp only [e]
  · intro j ψ hψ v S w w' hr h
    exact stS_get hsΨ j ψ hψ v S w w' hr h
  · have hd2 := allW_takeS D C h3 (ops.toList.take n) 0 D C (by simp; omega) (by simp) (by simp) hop
    have := allWords_get _ 0 i o hd2 (by rw [List.getElem?_take]; simp [hi]; simpa using ho)
    simpa using this
  · exact Nat.le_trans (List.length_filter_le _ _) (by simp)
  · symm
    have : ∀ (L : List (Nat × Nat)), (∀ p ∈ L, (ops[p.2]?).bind (·.dst) = some p.1) → fillL (fun j => match (ops[j]?).bind (·.dst) with | some d => a0.tmps.getD d undef | none => undef) L a0 = a0 := by
      intro L
      induction L with
      | nil => intro _; rfl
      | cons p L ih =>
        intro h
        obtain ⟨d, j⟩ := p
        have hd := h (d, j) (by simp)
        simp only at hd
        show fillL _ L (a0.put (some d) _) = a0
        simp only [hd]
        rw [put_self]
        exact ih (fun p hp => h p (by simp [hp]))
    exact this _ (fun p hp => mem_pairsOf.1 hp)
  · intro j hj
    rw [getD_replicate_false] at hj; cases hj
  · intro j d _ hdst
    simp only [hdst]
    exact put_self a0 d
  · intro j hj
    rw [getD_replicate_false] at hj; cases hj
end
end Go.Proofs.Ytlhliolknaopjaa

/-
  Denote: the cut copy of a tree is one's own. Conditions: the tree lies in memory.
-/
namespace Go.Proofs.Ytlhliolknaopjaa
open Go Go.ChangeShapes Go.WideShapes Go.ChangeAt Go.RowKit Go.Joins Go.Deep
set_option linter.unusedVariables false
set_option linter.unusedSimpArgs false

/-- A node variable at its zero. -/
abbrev ZV : Obj := .cells #[.int .i64 0, .int .i64 0, .int .u64 0, .string ⟨#[]⟩, .slice none 0 0, .slice none 0 0] 27 (0, 0)
def NewV (v : Value) (S : Nat → Prop) (w : World) : Prop := ∃ g, v = .pointer (some ⟨g, 0, none⟩) ∧ S g ∧ w.heap[g]? = some ZV
theorem NewV.st : ∀ v S w w', Grew w w' → NewV v S w → NewV v S w' := fun _ _ _ _ hg ⟨g, e, h1, h2⟩ => ⟨g, e, h1, hg.heap h2⟩
theorem NewV.made (w : World) : sepOK (some NewV) (.pointer (some ⟨w.heap.size, 0, none⟩)) w (w.alloc ZV) := ⟨fun g => g = w.heap.size, ⟨w.heap.size, rfl, rfl, heap_alloc_new _ _⟩, fun g e => by subst e; exact ⟨Nat.le_refl _, by rw [World.size_alloc]; exact Nat.lt_succ_self _⟩⟩
/-- A tree of one's own. -/
def OwnV (B : Nat) (t : Tr) (v : Value) (S : Nat → Prop) (w : World) : Prop := OwnT w B t v S
theorem OwnV.st (B : Nat) (t : Tr) : ∀ v S w w', Grew w w' → OwnV B t v S w → OwnV B t v S w' := fun _ _ _ _ hg h => OwnT.grew h hg
theorem OwnV.made {w w' : World} {B : Nat} {t : Tr} {v : Value} (hB : B ≤ w.heap.size) (h : OwnT w' w.heap.size t v (Fresh w w')) : sepOK (some (OwnV B t)) v w w' := ⟨Fresh w w', h.base hB, fun g h => h⟩
set_option maxRecDepth 100000 in
theorem few27o_any (t : Tr) (v : Value) (w : World) (hn : NodeAt w t v) : Calls Try.prog 9 #[v] w fun r w' => ∃ v', r = .returned v' ∧ OwnT w' w.heap.size (cutF t) v' (Fresh w w') ∧ Grew w w' := by
  have HN := Lib.hid hn
  obtain ⟨k, n, u, s, a4, n4, c4, a5, n5, c5, rfl⟩ := hn.node6
  clear hn
  go_enter Try.func9, Try.ntmps9
  go_wp2_with fail
  have hg1 := (Grew.refl w).alloc (.cells #[.int .i64 k, .int .i64 n, .int .u64 u, .string s, .slice a4 n4 c4, .slice a5 n5 c5] 27)
  have hs1 : (w.alloc (.cells #[.int .i64 k, .int .i64 n, .int .u64 u, .string s, .slice a4 n4 c4, .slice a5 n5 c5] 27)).heap.size = w.heap.size + 1 := World.size_alloc _ _
  generalize (w.alloc (.cells #[.int .i64 k, .int .i64 n, .int .u64 u, .string s, .slice a4 n4 c4, .slice a5 n5 c5] 27)) = w1 at *
  have hb2 := heap_alloc_new w1 (.cells #[.int .i64 0, .int .i64 0, .int .u64 0, .string ⟨#[]⟩, .slice none 0 0, .slice none 0 0] 27)
  have hg2 := (Grew.refl w1).alloc (.cells #[.int .i64 0, .int .i64 0, .int .u64 0, .string ⟨#[]⟩, .slice none 0 0, .slice none 0 0] 27)
  generalize (w1.alloc (.cells #[.int .i64 0, .int .i64 0, .int .u64 0, .string ⟨#[]⟩, .slice none 0 0, .slice none 0 0] 27)) = w2 at *
  rw [hs1] at hb2
  have HG := Lib.hid (hg1.trans hg2)
  refine (cut_node_any 80 60 (by omega) (by omega) (by omega) t _ w2 (HN.out.grew HG.out)).mono ?_
  rintro r w3 ⟨v1, rfl, ho1, hg3⟩
  have hb3 := hg3.heap hb2
  have HO := Lib.hid ho1
  obtain ⟨rk, rn, ru, rs, ra4, rn4, rc4, ra5, rn5, rc5, rfl⟩ := ho1.node6
  have HFIN : Hid (OwnT (store6 w3 (w.heap.size + 1) (.int .i64 rk) (.int .i64 rn) (.int .u64 ru) (.string rs) (.slice ra4 rn4 rc4) (.slice ra5 rn5 rc5)) w.heap.size (cutF t) (.agg #[.int .i64 rk, .int .i64 rn, .int .u64 ru, .string rs, .slice ra4 rn4 rc4, .slice ra5 rn5 rc5]) (Fresh w (store6 w3 (w.heap.size + 1) (.int .i64 rk) (.int .i64 rn) (.int .u64 ru) (.string rs) (.slice ra4 rn4 rc4) (.slice ra5 rn5 rc5))) ∧ Grew w (store6 w3 (w.heap.size + 1) (.int .i64 rk) (.int .i64 rn) (.int .u64 ru) (.string rs) (.slice ra4 rn4 rc4) (.slice ra5 rn5 rc5))) := by
    have hT : Moved (fun k => k = w.heap.size + 1) w3 (store6 w3 (w.heap.size + 1) (.int .i64 rk) (.int .i64 rn) (.int .u64 ru) (.string rs) (.slice ra4 rn4 rc4) (.slice ra5 rn5 rc5)) := moved_store6 w3 (w.heap.size + 1) _ _ _ _ _ _
    have h2 := (Array.getElem?_eq_some_iff.1 hb2).1
    have h3 := hg3.size
    generalize (store6 w3 (w.heap.size + 1) (.int .i64 rk) (.int .i64 rn) (.int .u64 ru) (.string rs) (.slice ra4 rn4 rc4) (.slice ra5 rn5 rc5)) = W at *
    have h4 := hT.size
    have h5 := HG.out.size
    refine ⟨((HO.out.kept hT (fun g hg e => ?_)).base (by omega)).mono (fun g hg => ?_), Moved.fresh (HG.out.trans hg3) hT (fun g e => by omega)⟩
    · have := hg.1; omega
    · have := hg.1; have := hg.2; exact ⟨by omega, by omega⟩
  have z0 := row_cellT hb3 0 _ rfl
  have z1 := row_cellT hb3 1 _ rfl
  have z2 := row_cellT hb3 2 _ rfl
  have z3 := row_cellT hb3 3 _ rfl
  have z4 := row_cellT hb3 4 _ rfl
  have z5 := row_cellT hb3 5 _ rfl
  have f0 := row_frozen hb3 0
  have f1 := row_frozen hb3 1
  have f2 := row_frozen hb3 2
  have f3 := row_frozen hb3 3
  have f4 := row_frozen hb3 4
  have f5 := row_frozen hb3 5
  clear hg1 hs1 hb2 hg2 ho1 hg3 hb3
  go_wp2_with fail
  refine bodyPost_ret (v := .agg #[.int .i64 rk, .int .i64 rn, .int .u64 ru, .string rs, .slice ra4 rn4 rc4, .slice ra5 rn5 rc5]) (by simp [results, Try.results9, go_sem, z0, z1, z2, z3, z4, z5]) rfl ?_
  exact ⟨_, rfl, HFIN.out⟩
end Go.Proofs.Ytlhliolknaopjaa

/-
  Normal forms, plain: valid trees, sorted trees, their normal forms. No program.
-/
namespace Go.Proofs.Ytlhliolknaopjaa
open Go Go.ChangeShapes Go.WideShapes Go.ChangeAt Go.RowKit Go.Joins Go.Deep
set_option linter.unusedVariables false
set_option linter.unusedSimpArgs false

end Go.Proofs.Ytlhliolknaopjaa

/-
  Trees, plain: what a valid node is; sorting. No program.
-/
namespace Go.Proofs.Ytlhliolknaopjaa
open Go Go.ChangeShapes Go.WideShapes Go.ChangeAt Go.RowKit Go.Joins Go.Deep
set_option linter.unusedVariables false
set_option linter.unusedSimpArgs false

end Go.Proofs.Ytlhliolknaopjaa

/-
  Denote, plain: bytes represent at most one tree; a represented tree is valid but for its depth, and sorted. No program.
-/
namespace Go.Proofs.Ytlhliolknaopjaa
open Go Go.ChangeShapes Go.WideShapes Go.ChangeAt Go.RowKit Go.Joins Go.Deep
set_option linter.unusedVariables false
set_option linter.unusedSimpArgs false

theorem names_iff {d : List UInt8} {w at_ : Int} : ∀ {l : List ByteArray} {i : Nat}, nameKids d w at_ i l = true ↔ ∀ j x, l[j]? = some x → keySays d (at_ + ((i + j : Nat) : Int) * w) w (at_ - w) x = true
  | [], i => by simp [nameKids]
  | x :: r, i => by
    simp only [nameKids, Bool.and_eq_true]
    rw [names_iff (l := r) (i := i + 1)]
    constructor
    · rintro ⟨h, hr⟩ j y hy
      cases j with
      | zero => simp only [List.getElem?_cons_zero, Option.some.injEq] at hy; subst hy; exact h
      | succ j =>
        simp only [List.getElem?_cons_succ] at hy
        have := hr j y hy
        rw [show i + (j + 1) = i + 1 + j by omega]; exact this
    · intro h
      refine ⟨h 0 x rfl, fun j y hy => ?_⟩
      have := h (j + 1) y (by simpa using hy)
      rw [show i + (j + 1) = i + 1 + j by omega] at this; exact this
end Go.Proofs.Ytlhliolknaopjaa

/-
  Denote, plain: a represented tree is valid but for its size and depth, and sorted. No program.
-/
namespace Go.Proofs.Ytlhliolknaopjaa
open Go Go.ChangeShapes Go.WideShapes Go.ChangeAt Go.RowKit Go.Joins Go.Deep
set_option linter.unusedVariables false
set_option linter.unusedSimpArgs false

end Go.Proofs.Ytlhliolknaopjaa

/-
  Trees: the program's Same (slices.Equal, slices.EqualFunc). Conditions: both nodes lie in memory.
-/
namespace Go.Proofs.Ytlhliolknaopjaa
open Go Go.ChangeShapes Go.WideShapes Go.ChangeAt Go.RowKit Go.Joins Go.Deep
set_option linter.unusedVariables false
set_option linter.unusedSimpArgs false

end Go.Proofs.Ytlhliolknaopjaa

/-
  Denote: what the laws share. Conditions: none.
-/
namespace Go.Proofs.Ytlhliolknaopjaa
open Go Go.ChangeShapes Go.WideShapes Go.ChangeAt Go.RowKit Go.Joins Go.Deep
set_option linter.unusedVariables false
set_option linter.unusedSimpArgs false

theorem cutB_len (d : List UInt8) : (cutB d).length ≤ 1048576 := by unfold cutB; rw [List.length_take]; omega
/-- Bytes of one's own. -/
def OwnD (B : Nat) (d : List UInt8) (v : Value) (S : Nat → Prop) (w : World) : Prop := w.ownsRow B 5 1 v d.length (Lib.byteCells d) ∧ ∀ g, v.ownBlock = some g → S g
theorem OwnD.st (B : Nat) (d : List UInt8) : ∀ v S w w', Grew w w' → OwnD B d v S w → OwnD B d v S w' := fun _ _ _ _ hg h => ⟨Moved.owns (Moved.of_grew (S := fun _ => False) hg) h.1 (fun _ _ h => h), h.2⟩
theorem OwnD.made {w w' : World} {B : Nat} {d : List UInt8} {v : Value} (hB : B ≤ w.heap.size) (h : w'.ownsRow w.heap.size 5 1 v d.length (Lib.byteCells d)) : sepOK (some (OwnD B d)) v w w' := ⟨fun g => v.ownBlock = some g, ⟨rows_base h hB, fun _ h => h⟩, fun g hg => World.ownsRow.lt h g hg⟩
/-- An operation that takes a value over. -/
theorem wpList_over {P : Program} {ops : Array Oper} {rest : List Oper} {o : Oper} {a : Act} {w : World} {Q : Exit → Act → World → Prop} (hgd : o.guard = none) (x : Operand) (ho : o.op = .assign x) (h : wpList P ops Q rest (a.put o.dst (a.eval x)) w) : wpList P ops Q (o :: rest) a w :=
  wpList_plain hgd fun _ hK => by
    unfold Oper.wp execOp
    simp only [ho, Sem.run_pure]
    exact hK _ _ h
end Go.Proofs.Ytlhliolknaopjaa
