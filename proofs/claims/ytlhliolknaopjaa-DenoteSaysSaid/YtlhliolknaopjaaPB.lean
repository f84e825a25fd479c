/-
  Texts of the proof, part 2 of 9.
-/
import Derived.Test.YtlhliolknaopjaaPA
import Derived.Lib.SliceRun
import Derived.Shelf.Small.Bits
import Derived.Shelf.Small.Strs
import Derived.Shelf.Strconv.Itoa0
import Derived.Shelf.Strings.Search1
import Derived.Ground.SlsfProg
import Derived.Shelf.SlSortCmp.Insertion
import Derived.Shelf.SlSortCmp.SiftDown1
import Derived.Shelf.SlSortCmp.HeapSort1
import Derived.Shelf.SlSortCmp.Insertion1
import Derived.Shelf.SlSortCmp.Median1
import Derived.Shelf.SlSortCmp.Pivot1
import Derived.Shelf.SlSortCmp.ReverseRange1
import Derived.Shelf.SlSortCmp.PartialInsertion1
import Derived.Shelf.SlSortCmp.PartitionEqual1
import Derived.Shelf.SlSortCmp.Partition1
import Derived.Shelf.SlSortCmp.Pdq1
import Derived.Shelf.SlSortCmp.Whole1
import Derived.Shelf.SlSortCmp.NoneTotal
import Derived.Test.YtlhliolknaopjaaProg
import Derived.Maps.OwnOps
import Derived.Maps.Views
import Derived.Lib.IndexAny
import Derived.Deep.OwnRows
import Derived.Deep.CutBlock
import Derived.Deep.DeepCutAuto
import Derived.Laws.BytesArg

/-
  Trees: the laws' shortened copy (Cut). Conditions: the node lies in memory.
-/
namespace Go.Proofs.Ytlhliolknaopjaa
open Go Go.ChangeShapes Go.WideShapes Go.ChangeAt Go.RowKit Go.Joins Go.Deep
set_option linter.unusedVariables false
set_option linter.unusedSimpArgs false

/-- The room's block. -/
def roomR (left long : Nat) : Obj := .cells #[.int .i64 left, .int .i64 long] 65 (0, 0)
theorem roomR_set {w : World} {rb left long : Nat} (h : w.heap[rb]? = some (roomR left long)) (p : Nat) : (w.setCell ⟨rb, 0, none⟩ (.int .i64 p)).heap[rb]? = some (roomR p long) := by
  have := heap_setCell_same w rb 0 _ _ (.int .i64 p) h
  simpa [roomR] using this
theorem cutTrs_end (long left : Nat) (l : List Tr) (k : Nat) (h : k = l.length ∨ (cutTrs long left (l.take k)).2 = 0) : cutTrs long left (l.take k) = cutTrs long left l := by
  rcases h with rfl | h
  · rw [List.take_length]
  · have := cutTrs_stop long (l.take k) (l.drop k) left h
    rw [List.take_append_drop] at this
    exact this.symm
theorem cutTrs_next (long left : Nat) (l : List Tr) (k p : Nat) (x : Tr) (hx : l[k]? = some x) (h : (cutTrs long left (l.take k)).2 = p + 1) :
    cutTrs long left (l.take (k + 1)) = ((cutTrs long left (l.take k)).1 ++ [(cutTr long p x).1], (cutTr long p x).2) := by
  rw [List.take_add_one, hx]
  show cutTrs long left (l.take k ++ [x]) = _
  rw [cutTrs_snoc, if_neg (by omega), h]
  rfl
theorem textsS_lenok {l : List ByteArray} (h : ∀ s ∈ l, lenok s.size) (many long : Nat) : ∀ s ∈ textsS l many long, lenok s.size := by
  intro s hs
  obtain ⟨y, hy, rfl⟩ := List.mem_map.1 hs
  have := h y (List.mem_of_mem_take hy)
  unfold lenok at *
  rw [shortS_size]
  omega
theorem shortS_lenok {s : ByteArray} (h : lenok s.size) (long : Nat) : lenok (shortS s long).size := by unfold lenok at *; rw [shortS_size]; omega
set_option maxRecDepth 100000 in
set_option maxHeartbeats 4000000 in
theorem roomcut_any (long : Nat) (hlong : long ≤ 1000) (W : World) (rb : Nat) (hWrb : W.heap.size ≤ rb) : ∀ (m : Nat) (t : Tr), t.size ≤ m → ∀ (v : Value) (w : World) (left : Nat), left ≤ 4096 → NodeAt W t v → Grew W w → w.heap[rb]? = some (roomR left long) →
    Calls Try.prog 42 #[bptr rb, v] w fun r w' => ∃ v', r = .returned v' ∧ OwnT w' w.heap.size (cutTr long left t).1 v' (Fresh w w') ∧ Moved (fun g => g = rb) w w' ∧ w'.heap[rb]? = some (roomR (cutTr long left t).2 long) := by
  intro m
  induction m with
  | zero => intro t ht; have := t.size_pos; omega
  | succ m ih =>
  intro t ht v w left hleft hn hW hrb
  obtain ⟨k, n, u, s, keys, l⟩ := t
  simp only [NodeAt] at hn
  obtain ⟨hb, kv, lv, vs, rfl, hks, hrows, hkids⟩ := hn
  have hkl : vs.length = l.length := hkids.length
  have HKS := Lib.hid hks
  have HK := Lib.hid hkids
  have HB := Lib.hid hb
  obtain ⟨a4, c4, rfl, hx1, hx2, hx3, hx4⟩ := hks
  clear hx1 hx2 hx3 hx4
  have HROWS := Lib.hid hrows
  obtain ⟨a5, c5, rfl, hll, hc5, hx3, hx4⟩ := hrows
  rw [hkl] at HROWS hll ⊢
  have hlen : l.length ≤ 9223372036854775807 := by unfold lenok at hc5; omega
  clear hx3 hx4 hll
  have hkz : Hid (∀ x ∈ keys, lenok x.size) := fun x hx => by
    obtain ⟨_, _, _, _, _, _, h⟩ := HKS.out
    obtain ⟨i, hi, rfl⟩ := List.mem_iff_getElem.1 hx
    exact (h i _ (List.getElem?_eq_getElem hi)).1
  have hsz : ∀ x ∈ l, x.size ≤ m := fun x hx => by have := size_mem hx; simp only [Tr.size] at ht; omega
  have HSZ := Lib.hid hsz
  have HW0 := Lib.hid hW
  clear hkids hb hsz ht hkl hc5 hW
  go_enter Try.func42, Try.ntmps42
  go_wp2_with fail
  have hb1 := heap_alloc_new w (.cells #[.int .i64 k, .int .i64 n, .int .u64 u, .string s, .slice a4 keys.length c4, .slice a5 l.length c5] 27)
  have hg1 := (Grew.refl w).alloc (.cells #[.int .i64 k, .int .i64 n, .int .u64 u, .string s, .slice a4 keys.length c4, .slice a5 l.length c5] 27)
  have hs1 : (w.alloc (.cells #[.int .i64 k, .int .i64 n, .int .u64 u, .string s, .slice a4 keys.length c4, .slice a5 l.length c5] 27)).heap.size = w.heap.size + 1 := World.size_alloc _ _
  generalize (w.alloc (.cells #[.int .i64 k, .int .i64 n, .int .u64 u, .string s, .slice a4 keys.length c4, .slice a5 l.length c5] 27)) = w1 at *
  have hb2 := heap_alloc_new w1 (.cells #[.int .i64 0, .int .i64 0, .int .u64 0, .string ⟨#[]⟩, .slice none 0 0, .slice none 0 0] 27)
  have hg2 := (Grew.refl w1).alloc (.cells #[.int .i64 0, .int .i64 0, .int .u64 0, .string ⟨#[]⟩, .slice none 0 0, .slice none 0 0] 27)
  have hs2 : (w1.alloc (.cells #[.int .i64 0, .int .i64 0, .int .u64 0, .string ⟨#[]⟩, .slice none 0 0, .slice none 0 0] 27)).heap.size = w1.heap.size + 1 := World.size_alloc _ _
  rw [hs1] at hb2 hs2
  generalize (w1.alloc (.cells #[.int .i64 0, .int .i64 0, .int .u64 0, .string ⟨#[]⟩, .slice none 0 0, .slice none 0 0] 27)) = w2 at *
  replace hb1 := hg2.heap hb1
  have hG := hg1.trans hg2
  have hs2' : w2.heap.size = w.heap.size + 2 := by omega
  obtain ⟨N, hN⟩ : ∃ N, w.heap.size = N := ⟨_, rfl⟩
  have hrbN : Hid (rb < N) := by show _ < _; rw [← hN]; exact (Array.getElem?_eq_some_iff.1 hrb).1
  replace hrb := hG.heap hrb
  rw [hN] at hb1 hb2 hs2' ⊢
  have hB2 : Hid (N + 2 ≤ w2.heap.size) := by show _ ≤ _; omega
  have c0 := row_cellT hb1 0 _ rfl
  have c1 := row_cellT hb1 1 _ rfl
  have c2 := row_cellT hb1 2 _ rfl
  have c3 := row_cellT hb1 3 _ rfl
  have c4' := row_cellT hb1 4 _ rfl
  have r1 := row_cellT hrb 1 _ rfl
  have HB1 := Lib.hid hb1
  have HB2 := Lib.hid hb2
  have HRB := Lib.hid hrb
  have HG := Lib.hid hG
  have HS2 := Lib.hid hs2'
  have HN := Lib.hid hN
  have hsl : Hid (lenok s.size) := HB.out.2.2.2
  clear hb1 hb2 hG hs1 hs2 hs2' hg1 hg2 hN hrb
  refine wp_region_last Grew [[], [0], [], [2], [], [4], [], [6], [], [8], [9], [10], [7, 11], [], [13], [], [15], [16], [17], [14, 18], [1, 3, 5, 12, 19], [], [20, 21]] [[(10, 2), (11, 3), (12, 4), (13, 5), (14, 6), (15, 7), (16, 8), (17, 9), (18, 10), (19, 11), (20, 12), (21, 13), (22, 14), (23, 15), (24, 16), (25, 17), (26, 18), (27, 19), (28, 20), (5, 21)], [(8, 0), (10, 2), (11, 3), (12, 4), (13, 5), (14, 6), (15, 7), (16, 8), (17, 9), (18, 10), (19, 11), (20, 12), (21, 13), (22, 14), (23, 15), (24, 16), (25, 17), (26, 18), (27, 19), (5, 21)], [(8, 0), (9, 1), (12, 4), (13, 5), (14, 6), (15, 7), (16, 8), (17, 9), (18, 10), (19, 11), (20, 12), (21, 13), (22, 14), (23, 15), (24, 16), (25, 17), (26, 18), (27, 19), (28, 20), (5, 21)], [(8, 0), (9, 1), (10, 2), (12, 4), (13, 5), (14, 6), (15, 7), (16, 8), (17, 9), (18, 10), (19, 11), (20, 12), (21, 13), (22, 14), (23, 15), (24, 16), (25, 17), (26, 18), (27, 19), (5, 21)], [(8, 0), (9, 1), (10, 2), (11, 3), (14, 6), (15, 7), (16, 8), (17, 9), (18, 10), (19, 11), (20, 12), (21, 13), (22, 14), (23, 15), (24, 16), (25, 17), (26, 18), (27, 19), (28, 20), (5, 21)], [(8, 0), (9, 1), (10, 2), (11, 3), (12, 4), (14, 6), (15, 7), (16, 8), (17, 9), (18, 10), (19, 11), (20, 12), (21, 13), (22, 14), (23, 15), (24, 16), (25, 17), (26, 18), (27, 19), (5, 21)], [(8, 0), (9, 1), (10, 2), (11, 3), (12, 4), (13, 5), (16, 8), (17, 9), (18, 10), (19, 11), (20, 12), (21, 13), (22, 14), (23, 15), (24, 16), (25, 17), (26, 18), (27, 19), (28, 20), (5, 21)], [(8, 0), (9, 1), (10, 2), (11, 3), (12, 4), (13, 5), (14, 6), (16, 8), (17, 9), (18, 10), (19, 11), (21, 13), (22, 14), (23, 15), (24, 16), (25, 17), (26, 18), (27, 19), (28, 20), (5, 21)], [(8, 0), (9, 1), (10, 2), (11, 3), (12, 4), (13, 5), (14, 6), (15, 7), (18, 10), (19, 11), (20, 12), (21, 13), (22, 14), (23, 15), (24, 16), (25, 17), (26, 18), (27, 19), (28, 20), (5, 21)], [(8, 0), (9, 1), (10, 2), (11, 3), (12, 4), (13, 5), (14, 6), (15, 7), (16, 8), (19, 11), (20, 12), (21, 13), (22, 14), (23, 15), (24, 16), (25, 17), (26, 18), (27, 19), (28, 20), (5, 21)], [(8, 0), (9, 1), (10, 2), (11, 3), (12, 4), (13, 5), (14, 6), (15, 7), (16, 8), (17, 9), (20, 12), (21, 13), (22, 14), (23, 15), (24, 16), (25, 17), (26, 18), (27, 19), (28, 20), (5, 21)], [(8, 0), (9, 1), (10, 2), (11, 3), (12, 4), (13, 5), (14, 6), (15, 7), (16, 8), (17, 9), (18, 10), (21, 13), (22, 14), (23, 15), (24, 16), (25, 17), (26, 18), (27, 19), (28, 20), (5, 21)], [(8, 0), (9, 1), (10, 2), (11, 3), (12, 4), (13, 5), (14, 6), (15, 7), (16, 8), (17, 9), (18, 10), (19, 11), (21, 13), (22, 14), (23, 15), (24, 16), (25, 17), (26, 18), (27, 19), (5, 21)], [(8, 0), (9, 1), (10, 2), (11, 3), (12, 4), (13, 5), (14, 6), (15, 7), (16, 8), (17, 9), (18, 10), (19, 11), (20, 12), (23, 15), (24, 16), (25, 17), (26, 18), (27, 19), (28, 20), (5, 21)], [(8, 0), (9, 1), (10, 2), (11, 3), (12, 4), (13, 5), (14, 6), (15, 7), (16, 8), (17, 9), (18, 10), (19, 11), (20, 12), (21, 13), (23, 15), (24, 16), (25, 17), (26, 18), (28, 20), (5, 21)], [(8, 0), (9, 1), (10, 2), (11, 3), (12, 4), (13, 5), (14, 6), (15, 7), (16, 8), (17, 9), (18, 10), (19, 11), (20, 12), (21, 13), (22, 14), (25, 17), (26, 18), (27, 19), (28, 20), (5, 21)], [(8, 0), (9, 1), (10, 2), (11, 3), (12, 4), (13, 5), (14, 6), (15, 7), (16, 8), (17, 9), (18, 10), (19, 11), (20, 12), (21, 13), (22, 14), (23, 15), (26, 18), (27, 19), (28, 20), (5, 21)], [(8, 0), (9, 1), (10, 2), (11, 3), (12, 4), (13, 5), (14, 6), (15, 7), (16, 8), (17, 9), (18, 10), (19, 11), (20, 12), (21, 13), (22, 14), (23, 15), (24, 16), (27, 19), (28, 20), (5, 21)], [(8, 0), (9, 1), (10, 2), (11, 3), (12, 4), (13, 5), (14, 6), (15, 7), (16, 8), (17, 9), (18, 10), (19, 11), (20, 12), (21, 13), (22, 14), (23, 15), (24, 16), (25, 17), (28, 20), (5, 21)], [(8, 0), (9, 1), (10, 2), (11, 3), (12, 4), (13, 5), (14, 6), (15, 7), (16, 8), (17, 9), (18, 10), (19, 11), (20, 12), (21, 13), (22, 14), (23, 15), (24, 16), (25, 17), (26, 18), (5, 21)], [(8, 0), (9, 1), (10, 2), (11, 3), (12, 4), (13, 5), (14, 6), (15, 7), (16, 8), (17, 9), (18, 10), (19, 11), (20, 12), (21, 13), (22, 14), (23, 15), (24, 16), (25, 17), (26, 18), (27, 19), (5, 21)], [(8, 0), (9, 1), (10, 2), (11, 3), (12, 4), (13, 5), (14, 6), (15, 7), (16, 8), (17, 9), (18, 10), (19, 11), (20, 12), (21, 13), (22, 14), (23, 15), (24, 16), (25, 17), (26, 18), (27, 19), (28, 20)], [(8, 0), (9, 1), (10, 2), (11, 3), (12, 4), (13, 5), (14, 6), (15, 7), (16, 8), (17, 9), (18, 10), (19, 11), (20, 12), (21, 13), (22, 14), (23, 15), (24, 16), (25, 17), (26, 18), (27, 19), (28, 20), (5, 21)]]
    [Is (.pointer (some ⟨N, 0, none⟩)), Is (.int .i64 k), Is (.pointer (some ⟨N, 1, none⟩)), Is (.int .i64 n), Is (.pointer (some ⟨N, 2, none⟩)), Is (.int .u64 u), Is (.pointer (some ⟨N, 3, none⟩)), Is (.string s), Is (bptr rb), Is (bptr rb), Is (.pointer (some ⟨rb, 1, none⟩)), Is (.int .i64 long), Is (.string (shortS s long)), Is (.pointer (some ⟨N, 4, none⟩)), Is (.slice a4 keys.length c4), Is (bptr rb), Is (bptr rb), Is (.pointer (some ⟨rb, 1, none⟩)), Is (.int .i64 long), fun v w => OwnS w (N + 2) v (textsS keys 64 long), fun v w => ∃ kv', v = .agg #[.int .i64 k, .int .i64 n, .int .u64 u, .string (shortS s long), kv', .slice none 0 0] ∧ OwnS w (N + 2) kv' (textsS keys 64 long), fun v w => ∃ g, v = .pointer (some ⟨g, 0, none⟩) ∧ (N + 2) ≤ g ∧ w.heap[g]? = some (rowN zeroNode)]
    (by kernel_rfl) Grew.trans Grew.refl (Grew.refl _).drew (by kernel_rfl) ⟨is_st, is_st, is_st, is_st, is_st, is_st, is_st, is_st, is_st, is_st, is_st, is_st, is_st, is_st, is_st, is_st, is_st, is_st, is_st, fun _ _ _ hg h => OwnS.grew h hg, fun _ _ _ hg h => h.elim fun q h => ⟨q, h.1, OwnS.grew h.2 hg⟩, fun _ _ _ hg h => h.elim fun q h => ⟨q, h.1, h.2.1, hg.heap h.2.2⟩, trivial⟩ rfl ⟨?_, ?_, ?_, ?_, ?_, ?_, ?_, ?_, ?_, ?_, ?_, ?_, ?_, ?_, ?_, ?_, ?_, ?_, ?_, ?_, ?_, ?_, trivial⟩ ?_ rfl
  · intro y w2' hG hD K hK
    simp only [fillL, Act.put, List.setIfInBounds_toArray, List.set_cons_zero, List.set_cons_succ, List.getD_cons_zero, List.getD_cons_succ, Is] at hK ⊢
    refine ite_yes (by rfl) ?_
    go_simp
    exact hK _ _ _ rfl (Grew.refl _) rfl
  · intro y w2' hG hD K hK
    simp only [depsH, List.getD_cons_zero, List.getD_cons_succ, Is, and_true] at hD
    have h0 := hD
    clear hD
    have dc0 := hG.cell c0
    have dc1 := hG.cell c1
    have dc2 := hG.cell c2
    have dc3 := hG.cell c3
    have dc4' := hG.cell c4'
    have dr1 := hG.cell r1
    simp only [fillL, Act.put, List.setIfInBounds_toArray, List.set_cons_zero, List.set_cons_succ, List.getD_cons_zero, List.getD_cons_succ, Is] at hK ⊢
    rw [h0] at hK ⊢
    clear h0
    refine ite_yes (by rfl) ?_
    go_simp
    exact hK _ _ _ rfl (Grew.refl _) rfl
  · intro y w2' hG hD K hK
    simp only [fillL, Act.put, List.setIfInBounds_toArray, List.set_cons_zero, List.set_cons_succ, List.getD_cons_zero, List.getD_cons_succ, Is] at hK ⊢
    refine ite_yes (by rfl) ?_
    go_simp
    exact hK _ _ _ rfl (Grew.refl _) rfl
  · intro y w2' hG hD K hK
    simp only [depsH, List.getD_cons_zero, List.getD_cons_succ, Is, and_true] at hD
    have h2 := hD
    clear hD
    have dc0 := hG.cell c0
    have dc1 := hG.cell c1
    have dc2 := hG.cell c2
    have dc3 := hG.cell c3
    have dc4' := hG.cell c4'
    have dr1 := hG.cell r1
    simp only [fillL, Act.put, List.setIfInBounds_toArray, List.set_cons_zero, List.set_cons_succ, List.getD_cons_zero, List.getD_cons_succ, Is] at hK ⊢
    rw [h2] at hK ⊢
    clear h2
    refine ite_yes (by rfl) ?_
    go_simp
    exact hK _ _ _ rfl (Grew.refl _) rfl
  · intro y w2' hG hD K hK
    simp only [fillL, Act.put, List.setIfInBounds_toArray, List.set_cons_zero, List.set_cons_succ, List.getD_cons_zero, List.getD_cons_succ, Is] at hK ⊢
    refine ite_yes (by rfl) ?_
    go_simp
    exact hK _ _ _ rfl (Grew.refl _) rfl
  · intro y w2' hG hD K hK
    simp only [depsH, List.getD_cons_zero, List.getD_cons_succ, Is, and_true] at hD
    have h4 := hD
    clear hD
    have dc0 := hG.cell c0
    have dc1 := hG.cell c1
    have dc2 := hG.cell c2
    have dc3 := hG.cell c3
    have dc4' := hG.cell c4'
    have dr1 := hG.cell r1
    simp only [fillL, Act.put, List.setIfInBounds_toArray, List.set_cons_zero, List.set_cons_succ, List.getD_cons_zero, List.getD_cons_succ, Is] at hK ⊢
    rw [h4] at hK ⊢
    clear h4
    refine ite_yes (by rfl) ?_
    go_simp
    exact hK _ _ _ rfl (Grew.refl _) rfl
  · intro y w2' hG hD K hK
    simp only [fillL, Act.put, List.setIfInBounds_toArray, List.set_cons_zero, List.set_cons_succ, List.getD_cons_zero, List.getD_cons_succ, Is] at hK ⊢
    refine ite_yes (by rfl) ?_
    go_simp
    exact hK _ _ _ rfl (Grew.refl _) rfl
  · intro y w2' hG hD K hK
    simp only [depsH, List.getD_cons_zero, List.getD_cons_succ, Is, and_true] at hD
    have h6 := hD
    clear hD
    have dc0 := hG.cell c0
    have dc1 := hG.cell c1
    have dc2 := hG.cell c2
    have dc3 := hG.cell c3
    have dc4' := hG.cell c4'
    have dr1 := hG.cell r1
    simp only [fillL, Act.put, List.setIfInBounds_toArray, List.set_cons_zero, List.set_cons_succ, List.getD_cons_zero, List.getD_cons_succ, Is] at hK ⊢
    rw [h6] at hK ⊢
    clear h6
    refine ite_yes (by rfl) ?_
    go_simp
    exact hK _ _ _ rfl (Grew.refl _) rfl
  · intro y w2' hG hD K hK
    simp only [fillL, Act.put, List.setIfInBounds_toArray, List.set_cons_zero, List.set_cons_succ, List.getD_cons_zero, List.getD_cons_succ, Is] at hK ⊢
    refine ite_yes (by rfl) ?_
    go_simp
    exact hK _ _ _ rfl (Grew.refl _) rfl
  · intro y w2' hG hD K hK
    simp only [depsH, List.getD_cons_zero, List.getD_cons_succ, Is, and_true] at hD
    have h8 := hD
    clear hD
    simp only [fillL, Act.put, List.setIfInBounds_toArray, List.set_cons_zero, List.set_cons_succ, List.getD_cons_zero, List.getD_cons_succ, Is] at hK ⊢
    rw [h8] at hK ⊢
    clear h8
    refine ite_yes (by rfl) ?_
    go_simp
    exact hK _ _ _ rfl (Grew.refl _) rfl
  · intro y w2' hG hD K hK
    simp only [depsH, List.getD_cons_zero, List.getD_cons_succ, Is, and_true] at hD
    have h9 := hD
    clear hD
    simp only [fillL, Act.put, List.setIfInBounds_toArray, List.set_cons_zero, List.set_cons_succ, List.getD_cons_zero, List.getD_cons_succ, Is] at hK ⊢
    rw [h9] at hK ⊢
    clear h9
    refine ite_yes (by rfl) ?_
    go_simp
    exact hK _ _ _ rfl (Grew.refl _) rfl
  · intro y w2' hG hD K hK
    simp only [depsH, List.getD_cons_zero, List.getD_cons_succ, Is, and_true] at hD
    have h10 := hD
    clear hD
    have dc0 := hG.cell c0
    have dc1 := hG.cell c1
    have dc2 := hG.cell c2
    have dc3 := hG.cell c3
    have dc4' := hG.cell c4'
    have dr1 := hG.cell r1
    simp only [fillL, Act.put, List.setIfInBounds_toArray, List.set_cons_zero, List.set_cons_succ, List.getD_cons_zero, List.getD_cons_succ, Is] at hK ⊢
    rw [h10] at hK ⊢
    clear h10
    refine ite_yes (by rfl) ?_
    go_simp
    exact hK _ _ _ rfl (Grew.refl _) rfl
  · intro y w2' hG hD K hK
    simp only [depsH, List.getD_cons_zero, List.getD_cons_succ, Is, and_true] at hD
    have h7 := hD.1
    have h11 := hD.2
    clear hD
    simp only [fillL, Act.put, List.setIfInBounds_toArray, List.set_cons_zero, List.set_cons_succ, List.getD_cons_zero, List.getD_cons_succ, Is] at hK ⊢
    rw [h7, h11] at hK ⊢
    clear h7 h11
    refine ite_yes (by rfl) ?_
    go_simp
    refine (short_any' _ s long hsl.out hlong).mono ?_
    rintro r w3 ⟨rfl, rfl⟩
    exact hK _ _ _ rfl (Grew.refl _) rfl
  · intro y w2' hG hD K hK
    simp only [fillL, Act.put, List.setIfInBounds_toArray, List.set_cons_zero, List.set_cons_succ, List.getD_cons_zero, List.getD_cons_succ, Is] at hK ⊢
    refine ite_yes (by rfl) ?_
    go_simp
    exact hK _ _ _ rfl (Grew.refl _) rfl
  · intro y w2' hG hD K hK
    simp only [depsH, List.getD_cons_zero, List.getD_cons_succ, Is, and_true] at hD
    have h13 := hD
    clear hD
    have dc0 := hG.cell c0
    have dc1 := hG.cell c1
    have dc2 := hG.cell c2
    have dc3 := hG.cell c3
    have dc4' := hG.cell c4'
    have dr1 := hG.cell r1
    simp only [fillL, Act.put, List.setIfInBounds_toArray, List.set_cons_zero, List.set_cons_succ, List.getD_cons_zero, List.getD_cons_succ, Is] at hK ⊢
    rw [h13] at hK ⊢
    clear h13
    refine ite_yes (by rfl) ?_
    go_simp
    exact hK _ _ _ rfl (Grew.refl _) rfl
  · intro y w2' hG hD K hK
    simp only [fillL, Act.put, List.setIfInBounds_toArray, List.set_cons_zero, List.set_cons_succ, List.getD_cons_zero, List.getD_cons_succ, Is] at hK ⊢
    refine ite_yes (by rfl) ?_
    go_simp
    exact hK _ _ _ rfl (Grew.refl _) rfl
  · intro y w2' hG hD K hK
    simp only [depsH, List.getD_cons_zero, List.getD_cons_succ, Is, and_true] at hD
    have h15 := hD
    clear hD
    simp only [fillL, Act.put, List.setIfInBounds_toArray, List.set_cons_zero, List.set_cons_succ, List.getD_cons_zero, List.getD_cons_succ, Is] at hK ⊢
    rw [h15] at hK ⊢
    clear h15
    refine ite_yes (by rfl) ?_
    go_simp
    exact hK _ _ _ rfl (Grew.refl _) rfl
  · intro y w2' hG hD K hK
    simp only [depsH, List.getD_cons_zero, List.getD_cons_succ, Is, and_true] at hD
    have h16 := hD
    clear hD
    simp only [fillL, Act.put, List.setIfInBounds_toArray, List.set_cons_zero, List.set_cons_succ, List.getD_cons_zero, List.getD_cons_succ, Is] at hK ⊢
    rw [h16] at hK ⊢
    clear h16
    refine ite_yes (by rfl) ?_
    go_simp
    exact hK _ _ _ rfl (Grew.refl _) rfl
  · intro y w2' hG hD K hK
    simp only [depsH, List.getD_cons_zero, List.getD_cons_succ, Is, and_true] at hD
    have h17 := hD
    clear hD
    have dc0 := hG.cell c0
    have dc1 := hG.cell c1
    have dc2 := hG.cell c2
    have dc3 := hG.cell c3
    have dc4' := hG.cell c4'
    have dr1 := hG.cell r1
    simp only [fillL, Act.put, List.setIfInBounds_toArray, List.set_cons_zero, List.set_cons_succ, List.getD_cons_zero, List.getD_cons_succ, Is] at hK ⊢
    rw [h17] at hK ⊢
    clear h17
    refine ite_yes (by rfl) ?_
    go_simp
    exact hK _ _ _ rfl (Grew.refl _) rfl
  · intro y w2' hG hD K hK
    simp only [depsH, List.getD_cons_zero, List.getD_cons_succ, Is, and_true] at hD
    have h14 := hD.1
    have h18 := hD.2
    clear hD
    simp only [fillL, Act.put, List.setIfInBounds_toArray, List.set_cons_zero, List.set_cons_succ, List.getD_cons_zero, List.getD_cons_succ, Is] at hK ⊢
    rw [h14, h18] at hK ⊢
    clear h14 h18
    refine ite_yes (by rfl) ?_
    go_simp
    refine (texts_any 64 long _ _ _ (HKS.out.grew (HW0.out.trans (HG.out.trans hG))) (by omega) hlong).mono ?_
    rintro r w3 ⟨v', rfl, hv, hg⟩
    exact hK _ _ _ rfl hg (rows_base hv (Nat.le_trans hB2.out hG.size))
  · intro y w2' hG hD K hK
    simp only [depsH, List.getD_cons_zero, List.getD_cons_succ, Is, and_true] at hD
    have h1 := hD.1
    have h3 := hD.2.1
    have h5 := hD.2.2.1
    have h12 := hD.2.2.2.1
    have h19 := hD.2.2.2.2
    clear hD
    simp only [fillL, Act.put, List.setIfInBounds_toArray, List.set_cons_zero, List.set_cons_succ, List.getD_cons_zero, List.getD_cons_succ, Is] at hK ⊢
    rw [h1, h3, h5, h12] at hK ⊢
    clear h1 h3 h5 h12
    refine ite_yes (by rfl) ?_
    refine Exists.elim (rows_form h19) fun va h => Exists.elim h fun vc h => ?_
    have hs := h.1
    clear h
    rw [hs] at hK h19 ⊢
    go_simp
    exact hK _ _ _ rfl (Grew.refl _) ⟨_, rfl, h19⟩
  · intro y w2' hG hD K hK
    simp only [fillL, Act.put, List.setIfInBounds_toArray, List.set_cons_zero, List.set_cons_succ, List.getD_cons_zero, List.getD_cons_succ, Is] at hK ⊢
    refine ite_yes (by rfl) ?_
    go_simp
    exact hK _ _ _ rfl ((Grew.refl _).alloc _) ⟨_, rfl, Nat.le_trans hB2.out hG.size, heap_alloc_new _ _⟩
  · intro y w2' hG hF K hK
    simp only [factsH, Is, and_true, Nat.reduceAdd] at hF
    have h0 := hF.1
    have h1 := hF.2.1
    have h2 := hF.2.2.1
    have h3 := hF.2.2.2.1
    have h4 := hF.2.2.2.2.1
    have h5 := hF.2.2.2.2.2.1
    have h6 := hF.2.2.2.2.2.2.1
    have h7 := hF.2.2.2.2.2.2.2.1
    have h8 := hF.2.2.2.2.2.2.2.2.1
    have h9 := hF.2.2.2.2.2.2.2.2.2.1
    have h10 := hF.2.2.2.2.2.2.2.2.2.2.1
    have h11 := hF.2.2.2.2.2.2.2.2.2.2.2.1
    have h12 := hF.2.2.2.2.2.2.2.2.2.2.2.2.1
    have h13 := hF.2.2.2.2.2.2.2.2.2.2.2.2.2.1
    have h14 := hF.2.2.2.2.2.2.2.2.2.2.2.2.2.2.1
    have h15 := hF.2.2.2.2.2.2.2.2.2.2.2.2.2.2.2.1
    have h16 := hF.2.2.2.2.2.2.2.2.2.2.2.2.2.2.2.2.1
    have h17 := hF.2.2.2.2.2.2.2.2.2.2.2.2.2.2.2.2.2.1
    have h18 := hF.2.2.2.2.2.2.2.2.2.2.2.2.2.2.2.2.2.2.1
    have h19 := hF.2.2.2.2.2.2.2.2.2.2.2.2.2.2.2.2.2.2.2.1
    have h20 := hF.2.2.2.2.2.2.2.2.2.2.2.2.2.2.2.2.2.2.2.2.1
    have h21 := hF.2.2.2.2.2.2.2.2.2.2.2.2.2.2.2.2.2.2.2.2.2
    clear hF
    simp only [lastOf]
    simp only [fillL, Act.put, List.setIfInBounds_toArray, List.set_cons_zero, List.set_cons_succ, List.getD_cons_zero, List.getD_cons_succ, Is] at hK ⊢
    rw [h0, h1, h2, h3, h4, h5, h6, h7, h8, h9, h10, h11, h12, h13, h14, h15, h16, h17, h18]
    clear h0 h1 h2 h3 h4 h5 h6 h7 h8 h9 h10 h11 h12 h13 h14 h15 h16 h17 h18
    refine ite_yes (by rfl) ?_
    refine Exists.elim h20 fun kv' h => ?_
    have hs20 := h.1
    have hkv := h.2
    refine Exists.elim (rows_form hkv) fun va h => Exists.elim h fun vc h => ?_
    have hs := h.1
    rw [hs] at hkv hs20
    clear h h20 hs h19
    refine Exists.elim h21 fun g h => ?_
    have hs21 := h.1
    have hgB := h.2.1
    have hrow := h.2.2
    clear h h21
    rw [hs20, hs21]
    clear hs20 hs21
    have f0 := row_frozen hrow 0
    have f1 := row_frozen hrow 1
    have f2 := row_frozen hrow 2
    have f3 := row_frozen hrow 3
    have f4 := row_frozen hrow 4
    have f5 := row_frozen hrow 5
    have d0 := row_cellT hrow 0 _ rfl
    have d1 := row_cellT hrow 1 _ rfl
    have d2 := row_cellT hrow 2 _ rfl
    have d3 := row_cellT hrow 3 _ rfl
    have d4 := row_cellT hrow 4 _ rfl
    have d5 := row_cellT hrow 5 _ rfl
    have hrow2 := heap_store6 hrow (.int .i64 k) (.int .i64 n) (.int .u64 u) (.string (shortS s long)) (.slice va (textsS keys 64 long).length vc) (.slice none 0 0)
    have hmv := moved_store6 w2' g (.int .i64 k) (.int .i64 n) (.int .u64 u) (.string (shortS s long)) (.slice va (textsS keys 64 long).length vc) (.slice none 0 0)
    have hkv2 : OwnS _ (N + 2) (.slice va (textsS keys 64 long).length vc) (textsS keys 64 long) := Moved.owns hmv hkv (fun q hq e => not_block hkv hrow (by decide) (by rw [hq, e]))
    have hgr := Moved.fresh hG hmv (fun q e => by have := HS2.out; omega)
    clear hG hrow hmv hkv
    go_simp
    refine hK _ _ ?_
    clear f0 f1 f2 f3 f4 f5 d0 d1 d2 d3 d4 d5 hK
    generalize ((((((w2'.setCell ⟨g, 0, none⟩ (.int .i64 k)).setCell ⟨g, 1, none⟩ (.int .i64 n)).setCell ⟨g, 2, none⟩ (.int .u64 u)).setCell ⟨g, 3, none⟩ (.string (shortS s long))).setCell ⟨g, 4, none⟩ (.slice va (textsS keys 64 long).length vc)).setCell ⟨g, 5, none⟩ (.slice none 0 0)) = w3 at *
    have HROW := Lib.hid hrow2
    have HKV := Lib.hid hkv2
    have HB1' := Lib.hid (hgr.heap HB1.out)
    have HB2' := Lib.hid (hgr.heap HB2.out)
    have HRB' := Lib.hid (hgr.heap HRB.out)
    have HG3 := Lib.hid (HG.out.trans hgr)
    clear hrow2 hkv2 HB1 HB2 HRB HG c0 c1 c2 c3 c4' r1
    have hgN : Hid (N + 2 ≤ g) := hgB
    clear hgB
    generalize y 19 = y19
    have hkz2 : Hid (∀ x ∈ textsS keys 64 long, lenok x.size) := textsS_lenok hkz.out 64 long
    generalize hK2 : textsS keys 64 long = keys2 at *
    have HK2 := Lib.hid hK2
    clear hK2
    have hsl2 : Hid (lenok (shortS s long).size) := shortS_lenok hsl.out long
    generalize hSS : shortS s long = s2 at *
    have HSS := Lib.hid hSS
    clear hSS
    go_wp2_with fail
    go_loopw [6, 7] (fun v i wr => ∃ (kk lf : Nat), kk ≤ l.length ∧ lf ≤ 4096 ∧ i = .int .i64 kk ∧ Hid (Grow (fun g => g = rb) w3 wr v (cutTrs long left (l.take kk)).1 ∧ (cutTrs long left (l.take kk)).2 = lf ∧ wr.heap[rb]? = some (roomR lf long))) (fun _ i _ => l.length - (intOf i).toNat)
    case atStart => exact ⟨0, left, Nat.zero_le _, hleft, rfl, by
      show _ ∧ _ ∧ _
      exact ⟨by simpa [cutTrs] using Grow.start _ _, by simp [cutTrs], HRB'.out⟩⟩
    case round =>
      obtain ⟨kk, lf, hkk, hlf, rfl, HW⟩ := hrel
      have hm3 : Moved (fun g => g = rb) w3 wr := by obtain ⟨_, _, _, _, _, hm⟩ := HW.out.1; exact hm
      have HM := Lib.hid hm3
      have b5 := row_cellT (hm3.heap HB1'.out (by have := hrbN.out; omega)) 5 _ rfl
      have q0 := row_cellT HW.out.2.2 0 _ rfl
      clear hm3
      by_cases hgo : kk < l.length ∧ 0 < lf
      · obtain ⟨hlt, hpos⟩ := hgo
        obtain ⟨p, rfl⟩ : ∃ p, lf = p + 1 := ⟨lf - 1, by omega⟩
        obtain ⟨x, hx⟩ : ∃ x, l[kk]? = some x := ⟨_, List.getElem?_eq_getElem hlt⟩
        obtain ⟨xv, hxv, hnx⟩ := HK.out.get hx
        have hxm : x ∈ l := List.mem_of_getElem? hx
        have HX := Lib.hid (cutTrs_next long left l kk p x hx HW.out.2.1)
        have hxs := HSZ.out x hxm
        have hWr : Hid (Grew W wr) := Moved.fresh (HW0.out.trans HG3.out) HM.out (fun g h => by omega)
        have HNX := Lib.hid hnx
        obtain ⟨b, off, rfl, hc6⟩ : ∃ b off, a5 = some ⟨b, off, none⟩ ∧ Cells6 wr b (off + kk * 6) xv := by
          obtain ⟨a, c, e, _, _, _, h⟩ := HROWS.out
          injection e with e1 e2 e3
          subst e1
          obtain ⟨b, off, e, h6⟩ := h kk xv hxv
          exact ⟨b, off, e, h6.grew hWr.out⟩
        obtain ⟨xk, xn, xu, xs, xa4, xn4, xc4, xa5, xn5, xc5, rfl⟩ := hnx.node6
        have hmS : Moved (fun g => g = rb) wr (wr.setCell ⟨rb, 0, none⟩ (.int .i64 p)) := Moved.setCell (S := fun g => g = rb) (p := ⟨rb, 0, none⟩) (Moved.refl _ wr) (fun _ => rfl) _
        obtain ⟨e0, e1, e2, e3, e4, e5⟩ := hc6.get
        have qf := row_frozen HW.out.2.2 0
        have hlti : (kk : Int) < l.length := by omega
        have HROOM := Lib.hid (roomR_set HW.out.2.2 p)
        have hne : ¬ b = rb := by
          have h0 := (hc6.grew (Grew.refl _)).get.1
          obtain ⟨a, c, e, _, _, _, h⟩ := HROWS.out
          injection e with e1 e2 e3
          obtain ⟨b', off', e, h6⟩ := h kk _ hxv
          rw [← e1] at e
          injection e with e
          injection e with e
          have := World.block_lt_of_cell? W _ h6.get.1
          simp only at this
          omega
        have hne2 : ¬ rb = b := fun e => hne e.symm
        have hrN : ¬ rb = N := by have := hrbN.out; omega
        have hrN2 : ¬ N = rb := by have := hrbN.out; omega
        clear hc6 hx hxv hnx hxm hpos
        have HMS := Lib.hid hmS
        have hrb3 : Hid (rb < w3.heap.size) := (Array.getElem?_eq_some_iff.1 HRB'.out).1
        have HWS : Hid (Grew W (wr.setCell ⟨rb, 0, none⟩ (.int .i64 p))) := Moved.fresh hWr.out hmS (fun g h => by omega)
        have HWK : Hid (Grow (fun g => g = rb) w3 (wr.setCell ⟨rb, 0, none⟩ (.int .i64 p)) u6 (cutTrs long left (l.take kk)).1) := HW.out.1.kept hmS (fun g h => by have := hrb3.out; omega) (fun _ h => h)
        clear hmS
        go_wp2_with fail
        refine (ih x hxs _ _ p (by omega) HNX.out HWS.out HROOM.out).mono ?_
        rintro r w4 ⟨xv, rfl, hox, hm4, hr4⟩
        obtain ⟨yk, yn, yu, ys, ya4, yn4, yc4, ya5, yn5, yc5, rfl⟩ := hox.node6
        have HOX := Lib.hid hox
        have HM4 := Lib.hid hm4
        have HR4 := Lib.hid hr4
        obtain ⟨vs4, S4, q1, q2, q3, q4⟩ := HWK.out
        obtain ⟨ga, gc, rfl, hz1, hz2, hz3⟩ := HWK.out.form
        have HLN : Hid ((cutTrs long left (l.take kk)).1.length ≤ 4096) := by
          show _ ≤ _
          have h1 := length_sizeL (cutTrs long left (l.take kk)).1
          have h2 := cutTrs_size long (l.take kk) left
          omega
        have HV4 : Hid (vs4.length ≤ 4096) := by show _ ≤ _; rw [q2.length]; exact HLN.out
        have HLF : Hid ((cutTr long p x).2 ≤ 4096) := by
          show _ ≤ _
          have h1 := cutTr_size long x p
          have h2 := (cutTr long p x).1.size_pos
          omega
        have HQ1 := Lib.hid q1
        have HQ2 := Lib.hid q2
        have HQ3 := Lib.hid q3
        have HQ4 := Lib.hid q4
        have HSW : Hid (w3.heap.size ≤ w4.heap.size) := Nat.le_trans q4.size hm4.size
        have HON : Hid (∀ o, OwnN (w4.alloc o) w3.heap.size (.slice ga (cutTrs long left (l.take kk)).1.length gc) vs4) := fun o => OwnN.grew ⟨Moved.owns hm4 q1.1 (fun g hg e => by have := (World.ownsRow.lt q1.1 g hg).1; have := hrb3.out; omega), q1.2⟩ ((Grew.refl _).alloc o)
        have HSZ4 : Hid (∀ o, w3.heap.size ≤ (w4.alloc o).heap.size) := fun o => Nat.le_trans HSW.out ((Grew.refl w4).alloc o).size
        clear q0 q1 q2 q3 q4 hz1 hz2 hz3 hox hm4 hr4 HW HWK e0 e1 e2 e3 e4 e5 b5 qf
        generalize (cutTrs long left (l.take kk)).1 = L at *
        go_wp2_with (at_builtin; refine wpList_appendN rfl _ _ rfl w3.heap.size _ vs4 rfl (HON.out _) _ _ (.agg #[.int .i64 yk, .int .i64 yn, .int .u64 yu, .string ys, .slice ya4 yn4 yc4, .slice ya5 yn5 yc5]) rfl (heap_alloc_new _ _) ⟨_, _, _, _, _, _, _, _, _, _, rfl⟩ (by have := HV4.out; omega) (HSZ4.out _) ?_; intro v' w5 hown hgr hnx; obtain ⟨va2, vc2, rfl, hz1, hz2, hz3⟩ := rows_form hown.1; have HG5 := Lib.hid (And.intro (Grow.step (R := fun g => g = rb) (fun g h => by have := hrb3.out; omega) vs4 S4 HQ2.out HQ1.out HQ3.out HQ4.out HOX.out HM4.out _ hown hgr hnx) ((Moved.of_grown hgr).heap (((Grew.refl w4).alloc _).heap HR4.out) (fun e => by have := (World.ownsRow.lt HQ1.out.1 rb e.symm).1; have := hrb3.out; omega))); clear hown hgr hnx hz1 hz2 hz3)
        go_roundw
        case rel =>
          refine ⟨kk + 1, (cutTr long p x).2, by omega, HLF.out, by go_num, ?_⟩
          show _ ∧ _ ∧ _
          rw [HX.out]
          have hh := HG5.out
          rw [List.length_append] at hh
          exact ⟨hh.1, rfl, hh.2⟩
        case measure => simp [intOf]; omega
      · have hend := cutTrs_end long left l kk (by have := HW.out.2.1; omega)
        have HE := HW.out
        rw [hend] at HE
        have HEH := Lib.hid HE
        have hrow := HM.out.heap HROW.out (by have := hgN.out; have := hrbN.out; omega)
        have hres := HM.out.heap HB2'.out (by have := hrbN.out; omega)
        have HROWW := Lib.hid hrow
        have HRESW := Lib.hid hres
        have f5 := row_frozen hrow 5
        have r0 := row_frozen hres 0
        have r1 := row_frozen hres 1
        have r2 := row_frozen hres 2
        have r3 := row_frozen hres 3
        have r4 := row_frozen hres 4
        have r5 := row_frozen hres 5
        have d0 := row_cellT hrow 0 _ rfl
        have d1 := row_cellT hrow 1 _ rfl
        have d2 := row_cellT hrow 2 _ rfl
        have d3 := row_cellT hrow 3 _ rfl
        have d4 := row_cellT hrow 4 _ rfl
        have d5 := row_cellT hrow 5 _ rfl
        have z0 := row_cellT hres 0 _ rfl
        have z1 := row_cellT hres 1 _ rfl
        have z2 := row_cellT hres 2 _ rfl
        have z3 := row_cellT hres 3 _ rfl
        have z4 := row_cellT hres 4 _ rfl
        have z5 := row_cellT hres 5 _ rfl
        have hne : ¬ g = N + 1 := by have := hgN.out; omega
        have hne2 : ¬ N + 1 = g := by have := hgN.out; omega
        obtain ⟨ga, gc, rfl, hz1, hz2, hz3⟩ := HE.1.form
        obtain ⟨L, hL⟩ : ∃ L, (cutTrs long left l).1 = L := ⟨_, rfl⟩
        have hT := moved_close wr g (N + 1) (.int .i64 k) (.int .i64 n) (.int .u64 u) (.string s2) (.slice va keys2.length vc) (.slice ga (cutTrs long left l).1.length gc) (.slice ga (cutTrs long left l).1.length gc)
        have hWW : Moved (fun q => q = rb) w wr := (Moved.of_grew HG3.out).trans' HM.out
        have hMW : Moved (fun q => q = rb) w (store6 (wr.setCell ⟨g, 5, none⟩ (.slice ga (cutTrs long left l).1.length gc)) (N + 1) (.int .i64 k) (.int .i64 n) (.int .u64 u) (.string s2) (.slice va keys2.length vc) (.slice ga (cutTrs long left l).1.length gc)) := hWW.trans hT (fun j hj e => by have h1 := HN.out; have h2 := hgN.out; rcases e with rfl | rfl <;> omega)
        have hkvW : OwnS wr (N + 2) (.slice va keys2.length vc) keys2 := Moved.owns HM.out HKV.out (fun q hq e => by have := (World.ownsRow.lt HKV.out q hq).1; have := hrbN.out; omega)
        have hrbW := hT.heap HE.2.2 (fun e => by have := hgN.out; have := hrbN.out; omega)
        have hfin : OwnT (store6 (wr.setCell ⟨g, 5, none⟩ (.slice ga (cutTrs long left l).1.length gc)) (N + 1) (.int .i64 k) (.int .i64 n) (.int .u64 u) (.string s2) (.slice va keys2.length vc) (.slice ga (cutTrs long left l).1.length gc)) w.heap.size (.mk k n u s2 keys2 (cutTrs long left l).1) (.agg #[.int .i64 k, .int .i64 n, .int .u64 u, .string s2, .slice va keys2.length vc, .slice ga (cutTrs long left l).1.length gc]) (Fresh w (store6 (wr.setCell ⟨g, 5, none⟩ (.slice ga (cutTrs long left l).1.length gc)) (N + 1) (.int .i64 k) (.int .i64 n) (.int .u64 u) (.string s2) (.slice va keys2.length vc) (.slice ga (cutTrs long left l).1.length gc))) := by
          have h1 := HN.out
          have h2 := hgN.out
          have h3 : g < w3.heap.size := (Array.getElem?_eq_some_iff.1 HROW.out).1
          have h4 : N + 1 < w3.heap.size := (Array.getElem?_eq_some_iff.1 HB2'.out).1
          refine Grow.tree (((HE.1.wider (T := fun q => q = rb ∨ (q = g ∨ q = N + 1)) (fun _ h => .inl h)).kept hT (fun q hq => ?_) (fun _ h => .inr h))) ⟨HB.out.1, HB.out.2.1, HB.out.2.2.1, hsl2.out, hkz2.out⟩ HG3.out.size ?_ (fun q hq => (World.ownsRow.lt HKV.out q hq).2)
          · rcases hq with rfl | rfl <;> omega
          · refine rows_base (Moved.owns hT hkvW (fun q hq e => ?_)) (by omega)
            rcases e with rfl | rfl
            · exact not_block hkvW HROWW.out (by decide) hq
            · exact not_block hkvW HRESW.out (by decide) hq
        have HFIN : Hid (OwnT (store6 (wr.setCell ⟨g, 5, none⟩ (.slice ga (cutTrs long left l).1.length gc)) (N + 1) (.int .i64 k) (.int .i64 n) (.int .u64 u) (.string s2) (.slice va keys2.length vc) (.slice ga (cutTrs long left l).1.length gc)) w.heap.size (cutTr long left (.mk k n u s keys l)).1 (.agg #[.int .i64 k, .int .i64 n, .int .u64 u, .string s2, .slice va keys2.length vc, .slice ga (cutTrs long left l).1.length gc]) (Fresh w (store6 (wr.setCell ⟨g, 5, none⟩ (.slice ga (cutTrs long left l).1.length gc)) (N + 1) (.int .i64 k) (.int .i64 n) (.int .u64 u) (.string s2) (.slice va keys2.length vc) (.slice ga (cutTrs long left l).1.length gc))) ∧
            Moved (fun q => q = rb) w (store6 (wr.setCell ⟨g, 5, none⟩ (.slice ga (cutTrs long left l).1.length gc)) (N + 1) (.int .i64 k) (.int .i64 n) (.int .u64 u) (.string s2) (.slice va keys2.length vc) (.slice ga (cutTrs long left l).1.length gc)) ∧ (store6 (wr.setCell ⟨g, 5, none⟩ (.slice ga (cutTrs long left l).1.length gc)) (N + 1) (.int .i64 k) (.int .i64 n) (.int .u64 u) (.string s2) (.slice va keys2.length vc) (.slice ga (cutTrs long left l).1.length gc)).heap[rb]? = some (roomR (cutTr long left (.mk k n u s keys l)).2 long)) := by
          show _ ∧ _ ∧ _
          refine ⟨?_, hMW, ?_⟩
          · simp only [cutTr]
            rw [HK2.out, HSS.out]
            exact hfin
          · simp only [cutTr]
            rw [HE.2.1]
            exact hrbW
        clear hT hMW hWW hfin hkvW hrbW hend HE hrow hres hz1 hz2 hz3
        rw [hL] at *
        by_cases hlt : kk < l.length
        · obtain rfl : lf = 0 := by omega
          clear hgo
          go_wp2
          refine bodyPost_ret (v := .agg #[.int .i64 k, .int .i64 n, .int .u64 u, .string s2, .slice va keys2.length vc, .slice ga L.length gc]) (by simp [results, Try.results42, go_sem, z0, z1, z2, z3, z4, z5, hne, hne2]) rfl ?_
          exact ⟨_, rfl, HFIN.out⟩
        · clear hgo
          have hge : ¬ (kk : Int) < l.length := by omega
          go_wp2
          refine bodyPost_ret (v := .agg #[.int .i64 k, .int .i64 n, .int .u64 u, .string s2, .slice va keys2.length vc, .slice ga L.length gc]) (by simp [results, Try.results42, go_sem, z0, z1, z2, z3, z4, z5, hne, hne2]) rfl ?_
          exact ⟨_, rfl, HFIN.out⟩
end Go.Proofs.Ytlhliolknaopjaa

/-
  Trees: Cut; comparing lists of strings.
-/
namespace Go.Proofs.Ytlhliolknaopjaa
open Go Go.ChangeShapes Go.WideShapes Go.ChangeAt Go.RowKit Go.Joins Go.Deep
set_option linter.unusedVariables false
set_option linter.unusedSimpArgs false

theorem str_eq (x y : ByteArray) : (x.toList == y.toList) = decide (x = y) := by
  rw [Bool.eq_iff_iff, beq_iff_eq, decide_eq_true_eq, ByteArray.toList_eq, ByteArray.toList_eq]
  exact ⟨fun h => bytes_inj h, fun h => by rw [h]⟩
set_option maxRecDepth 100000 in
set_option maxHeartbeats 1000000 in
theorem cut_node_any (nodes long : Nat) (hn1 : 1 ≤ nodes) (hn : nodes ≤ 4096) (hlong : long ≤ 1000) (t : Tr) (v : Value) (w : World) (h : NodeAt w t v) :
    Calls Try.prog 21 #[v, .int .i64 nodes, .int .i64 long] w fun r w' => ∃ v', r = .returned v' ∧ OwnT w' w.heap.size (cutTr long (nodes - 1) t).1 v' (Fresh w w') ∧ Grew w w' := by
  have HNA := Lib.hid h
  obtain ⟨k, n, u, s, a4, n4, c4, a5, n5, c5, rfl⟩ := h.node6
  clear h
  obtain ⟨p, rfl⟩ : ∃ p, nodes = p + 1 := ⟨nodes - 1, by omega⟩
  go_enter Try.func21, Try.ntmps21
  go_wp2_with fail
  have hb2 := heap_alloc_new (w.alloc (.cells #[.int .i64 k, .int .i64 n, .int .u64 u, .string s, .slice a4 n4 c4, .slice a5 n5 c5] 27)) (.cells #[.int .i64 0, .int .i64 0, .int .u64 0, .string ⟨#[]⟩, .slice none 0 0, .slice none 0 0] 27)
  have hg2 := ((Grew.refl w).alloc (.cells #[.int .i64 k, .int .i64 n, .int .u64 u, .string s, .slice a4 n4 c4, .slice a5 n5 c5] 27)).alloc (.cells #[.int .i64 0, .int .i64 0, .int .u64 0, .string ⟨#[]⟩, .slice none 0 0, .slice none 0 0] 27)
  have hs2 : ((w.alloc (.cells #[.int .i64 k, .int .i64 n, .int .u64 u, .string s, .slice a4 n4 c4, .slice a5 n5 c5] 27)).alloc (.cells #[.int .i64 0, .int .i64 0, .int .u64 0, .string ⟨#[]⟩, .slice none 0 0, .slice none 0 0] 27)).heap.size = w.heap.size + 1 + 1 := by rw [World.size_alloc, World.size_alloc]
  rw [World.size_alloc] at hb2
  generalize ((w.alloc (.cells #[.int .i64 k, .int .i64 n, .int .u64 u, .string s, .slice a4 n4 c4, .slice a5 n5 c5] 27)).alloc (.cells #[.int .i64 0, .int .i64 0, .int .u64 0, .string ⟨#[]⟩, .slice none 0 0, .slice none 0 0] 27)) = w2 at *
  have hb3 := heap_alloc_new w2 (.cells #[.int .i64 p, .int .i64 long] 65)
  have hg3 := (Grew.refl w2).alloc (.cells #[.int .i64 p, .int .i64 long] 65)
  have hs3 : (w2.alloc (.cells #[.int .i64 p, .int .i64 long] 65)).heap.size = w2.heap.size + 1 := World.size_alloc _ _
  rw [hs2] at hb3 hs3
  generalize (w2.alloc (.cells #[.int .i64 p, .int .i64 long] 65)) = w3 at *
  have HB2 := Lib.hid (hg3.heap hb2)
  have HG3 := Lib.hid (hg2.trans hg3)
  obtain ⟨N, hN⟩ : ∃ N, w.heap.size = N := ⟨_, rfl⟩
  rw [hN] at hb3 HB2 hs3 ⊢
  have HN := Lib.hid hN
  have HS3 := Lib.hid hs3
  have hroom : w3.heap[N + 1 + 1]? = some (roomR p long) := hb3
  clear hb2 hb3 hg2 hg3 hs2 hs3 hN
  refine (roomcut_any long hlong w (N + 1 + 1) (by have := HN.out; omega) t.size t (Nat.le_refl _) _ _ p (by omega) HNA.out HG3.out hroom).mono ?_
  rintro r w4 ⟨v', rfl, ho, hm, _⟩
  obtain ⟨yk, yn, yu, ys, ya4, yn4, yc4, ya5, yn5, yc5, rfl⟩ := ho.node6
  have hres := hm.heap HB2.out (by omega)
  have r0 := row_frozen hres 0
  have r1 := row_frozen hres 1
  have r2 := row_frozen hres 2
  have r3 := row_frozen hres 3
  have r4 := row_frozen hres 4
  have r5 := row_frozen hres 5
  have z0 := row_cellT hres 0 _ rfl
  have z1 := row_cellT hres 1 _ rfl
  have z2 := row_cellT hres 2 _ rfl
  have z3 := row_cellT hres 3 _ rfl
  have z4 := row_cellT hres 4 _ rfl
  have z5 := row_cellT hres 5 _ rfl
  have hst := moved_store6 w4 (N + 1) (.int .i64 yk) (.int .i64 yn) (.int .u64 yu) (.string ys) (.slice ya4 yn4 yc4) (.slice ya5 yn5 yc5)
  have hGW : Grew w w4 := Moved.fresh HG3.out hm (fun g h => by have := HN.out; omega)
  have hGF : Grew w (store6 w4 (N + 1) (.int .i64 yk) (.int .i64 yn) (.int .u64 yu) (.string ys) (.slice ya4 yn4 yc4) (.slice ya5 yn5 yc5)) := Moved.fresh hGW hst (fun g h => by have := HN.out; omega)
  have hfin := ((ho.kept hst (fun g hg e => by have h1 := HS3.out; have h2 := hg.1; omega)).base (B' := w.heap.size) HG3.out.size).mono (T := Fresh w (store6 w4 (N + 1) (.int .i64 yk) (.int .i64 yn) (.int .u64 yu) (.string ys) (.slice ya4 yn4 yc4) (.slice ya5 yn5 yc5))) (fun g hg => ⟨Nat.le_trans HG3.out.size hg.1, Nat.lt_of_lt_of_le hg.2 hst.size⟩)
  have HFIN := Lib.hid (And.intro hfin hGF)
  clear hst hGW hGF hfin ho hm hres hroom
  go_wp2
  refine bodyPost_ret (v := .agg #[.int .i64 yk, .int .i64 yn, .int .u64 yu, .string ys, .slice ya4 yn4 yc4, .slice ya5 yn5 yc5]) (by simp [results, Try.results21, go_sem, z0, z1, z2, z3, z4, z5]) rfl ?_
  exact ⟨_, rfl, by simpa using HFIN.out.1, HFIN.out.2⟩
set_option maxRecDepth 100000 in
set_option maxHeartbeats 1000000 in
theorem eqtexts_any (a b : List ByteArray) (v u : Value) (w : World) (ha : StrsAt w v a) (hb : StrsAt w u b) :
    Calls Try.prog 27 #[v, u] w fun r w' => r = .returned (.bool (decide (a = b))) ∧ Grew w w' := by
  have HA := Lib.hid ha
  have HB := Lib.hid hb
  obtain ⟨aa, ac, rfl, hla, hac, hz1, hz2⟩ := ha
  obtain ⟨ba, bc, rfl, hlb, hbc, hz3, hz4⟩ := hb
  unfold lenok at hac hbc
  have hal : a.length ≤ 9223372036854775807 := by omega
  have hbl : b.length ≤ 9223372036854775807 := by omega
  clear hz1 hz2 hz3 hz4 hac hbc hla hlb
  by_cases hl : a.length = b.length
  · go_enter Try.func27, Try.ntmps27
    go_wp2_with fail
    have hli : (a.length : Int) = b.length := by omega
    have HL := Lib.hid hl
    clear hli hl
    go_loopw [5] (fun i wr => ∃ k : Nat, k ≤ a.length ∧ i = .int .i64 k ∧ Hid (a.take k = b.take k ∧ Grew w wr)) (fun i _ => a.length - (intOf i).toNat)
    case atStart => exact ⟨0, Nat.zero_le _, rfl, by show _ ∧ _; exact ⟨by simp, Grew.refl _⟩⟩
    case round =>
      obtain ⟨k, hk, rfl, HW⟩ := hrel
      by_cases hlt : k < a.length
      · obtain ⟨x, hx⟩ : ∃ x, a[k]? = some x := ⟨_, List.getElem?_eq_getElem hlt⟩
        have hltb : k < b.length := by have := HL.out; omega
        obtain ⟨y, hy⟩ : ∃ y, b[k]? = some y := ⟨_, List.getElem?_eq_getElem hltb⟩
        obtain ⟨ax, ab, aoff, rfl, hca⟩ : lenok x.size ∧ ∃ b off, aa = some ⟨b, off, none⟩ ∧ w.cell? ⟨b, off + k, none⟩ = some (.string x) := by
          obtain ⟨a', c', e, _, _, _, h⟩ := HA.out
          injection e with e1 e2 e3
          subst e1
          exact h k x hx
        obtain ⟨bx, bb, boff, rfl, hcb⟩ : lenok y.size ∧ ∃ b off, ba = some ⟨b, off, none⟩ ∧ w.cell? ⟨b, off + k, none⟩ = some (.string y) := by
          obtain ⟨a', c', e, _, _, _, h⟩ := HB.out
          injection e with e1 e2 e3
          subst e1
          exact h k y hy
        have c0 := HW.out.2.cell hca
        have c1 := HW.out.2.cell hcb
        have HXY := Lib.hid (And.intro hx hy)
        clear hx hy hca hcb ax bx
        have hlti : (k : Int) < a.length := by omega
        have hltj : (k : Int) < b.length := by omega
        by_cases hxy : x = y
        · subst hxy
          go_wp2_with fail
          go_quiet (fail)
          go_wp2
          go_roundw
          case rel => exact ⟨k + 1, by omega, by go_num, by
            show _ ∧ _
            obtain ⟨h1, h2⟩ := HXY.out
            exact ⟨by rw [List.take_add_one, List.take_add_one, HW.out.1, h1, h2], HW.out.2.drewN _⟩⟩
          case measure => simp [intOf]; omega
        · have hne : Hid (¬ a = b) := fun e => hxy (by
            obtain ⟨h1, h2⟩ := HXY.out
            rw [e, h2] at h1
            injection h1 with h1
            exact h1.symm)
          have hbne : (x.toList == y.toList) = false := by rw [str_eq]; exact decide_eq_false hxy
          clear hxy
          go_wp2_with fail
          go_quiet (fail)
          go_wp2
          go_ret
          exact ⟨by rw [decide_eq_false hne.out]; rfl, HW.out.2.drewN _⟩
      · have ek : k = a.length := by omega
        subst ek
        have heq : Hid (a = b) := by
          show _ = _
          have h := HW.out.1
          rw [List.take_length, HL.out, List.take_length] at h
          exact h
        go_wp2
        go_ret
        exact ⟨by rw [decide_eq_true heq.out]; rfl, HW.out.2⟩
  · have hne : Hid (¬ a = b) := fun e => hl (by rw [e])
    have hb1 : ((a.length : Int) != b.length) = true := by simp; omega
    go_enter Try.func27, Try.ntmps27
    go_wp2
    go_ret
    exact ⟨by rw [decide_eq_false hne.out]; rfl, Grew.refl _⟩
end Go.Proofs.Ytlhliolknaopjaa

/-
  Trees: the reference's comparison. Conditions: both nodes lie in memory.
-/
namespace Go.Proofs.Ytlhliolknaopjaa
open Go Go.ChangeShapes Go.WideShapes Go.ChangeAt Go.RowKit Go.Joins Go.Deep
set_option linter.unusedVariables false
set_option linter.unusedSimpArgs false

set_option maxRecDepth 100000 in
set_option maxHeartbeats 4000000 in
theorem eqnode_any : ∀ (m : Nat) (t : Tr), t.size ≤ m → ∀ (t2 : Tr) (v v2 : Value) (w : World), NodeAt w t v → NodeAt w t2 v2 →
    Calls Try.prog 13 #[v, v2] w fun r w' => ∃ b, r = .returned (.bool b) ∧ (b = true ↔ t = t2) ∧ Grew w w' := by
  intro m
  induction m with
  | zero => intro t ht; have := t.size_pos; omega
  | succ m ih =>
  intro t ht t2 v v2 w hn hn2
  obtain ⟨k, n, u, s, keys, l⟩ := t
  obtain ⟨k2, n2, u2, s2, keys2, l2⟩ := t2
  simp only [NodeAt] at hn hn2
  obtain ⟨hb, kv, lv, vs, rfl, hks, hrows, hkids⟩ := hn
  obtain ⟨hb2, kv2, lv2, vs2, rfl, hks2, hrows2, hkids2⟩ := hn2
  have hkl := hkids.length
  have hkl2 := hkids2.length
  have HKS := Lib.hid hks
  have HKS2 := Lib.hid hks2
  have HK := Lib.hid hkids
  have HK2 := Lib.hid hkids2
  obtain ⟨a4, c4, rfl, hx1, hx2, hx3, hx4⟩ := hks
  obtain ⟨b4, d4, rfl, hy1, hy2, hy3, hy4⟩ := hks2
  clear hx1 hx2 hx3 hx4 hy1 hy2 hy3 hy4
  have HROWS := Lib.hid hrows
  have HROWS2 := Lib.hid hrows2
  obtain ⟨a5, c5, rfl, hll, hc5, hx3, hx4⟩ := hrows
  obtain ⟨b5, d5, rfl, hll2, hd5, hy3, hy4⟩ := hrows2
  rw [hkl] at HROWS hll ⊢
  rw [hkl2] at HROWS2 hll2 ⊢
  have hlen : l.length ≤ 9223372036854775807 := by unfold lenok at hc5; omega
  have hlen2 : l2.length ≤ 9223372036854775807 := by unfold lenok at hd5; omega
  clear hx3 hx4 hll hy3 hy4 hll2 hc5 hd5 hb hb2 hkl hkl2 hkids hkids2
  have hsz : ∀ x ∈ l, x.size ≤ m := fun x hx => by have := size_mem hx; simp only [Tr.size] at ht; omega
  have HSZ := Lib.hid hsz
  clear hsz ht
  by_cases h0 : k = k2
  rotate_left
  · have hne : Hid (¬ (Tr.mk k n u s keys l = Tr.mk k2 n2 u2 s2 keys2 l2)) := fun e => h0 (by injection e)
    have hB : (k != k2) = true := by simp [h0]
    clear h0
    go_enter Try.func13, Try.ntmps13
    go_wp2_with fail
    go_ret
    exact ⟨false, rfl, ⟨fun h => absurd h (by decide), fun h => absurd h hne.out⟩, ((Grew.refl w).alloc _).alloc _⟩
  by_cases h1 : n = n2
  rotate_left
  · have hne : Hid (¬ (Tr.mk k n u s keys l = Tr.mk k2 n2 u2 s2 keys2 l2)) := fun e => h1 (by injection e)
    have hB : (n != n2) = true := by simp [h1]
    clear h1
    go_enter Try.func13, Try.ntmps13
    go_wp2_with fail
    go_ret
    exact ⟨false, rfl, ⟨fun h => absurd h (by decide), fun h => absurd h hne.out⟩, ((Grew.refl w).alloc _).alloc _⟩
  by_cases h2 : u = u2
  rotate_left
  · have hne : Hid (¬ (Tr.mk k n u s keys l = Tr.mk k2 n2 u2 s2 keys2 l2)) := fun e => h2 (by injection e)
    have hB : (u != u2) = true := by simp [h2]
    clear h2
    go_enter Try.func13, Try.ntmps13
    go_wp2_with fail
    go_ret
    exact ⟨false, rfl, ⟨fun h => absurd h (by decide), fun h => absurd h hne.out⟩, ((Grew.refl w).alloc _).alloc _⟩
  by_cases h3 : s = s2
  rotate_left
  · have hne : Hid (¬ (Tr.mk k n u s keys l = Tr.mk k2 n2 u2 s2 keys2 l2)) := fun e => h3 (by injection e)
    have hB : (s.toList == s2.toList) = false := by rw [str_eq]; exact decide_eq_false h3
    clear h3
    go_enter Try.func13, Try.ntmps13
    go_wp2_with fail
    go_ret
    exact ⟨false, rfl, ⟨fun h => absurd h (by decide), fun h => absurd h hne.out⟩, ((Grew.refl w).alloc _).alloc _⟩
  subst h0 h1 h2 h3
  by_cases h4 : keys = keys2
  rotate_left
  · have hne : Hid (¬ (Tr.mk k n u s keys l = Tr.mk k n u s keys2 l2)) := fun e => h4 (by injection e)
    have hB : decide (keys = keys2) = false := decide_eq_false h4
    clear h4
    go_enter Try.func13, Try.ntmps13
    go_wp2_with fail
    refine (eqtexts_any keys keys2 _ _ _ (HKS.out.grew (((Grew.refl w).alloc _).alloc _)) (HKS2.out.grew (((Grew.refl w).alloc _).alloc _))).mono ?_
    rw [hB]
    rintro r w3 ⟨rfl, hg3⟩
    have HG3 := Lib.hid hg3
    clear hg3 hB
    go_wp2_with fail
    go_ret
    exact ⟨false, rfl, ⟨fun h => absurd h (by decide), fun h => absurd h hne.out⟩, (((Grew.refl w).alloc _).alloc _).trans HG3.out⟩
  subst h4
  go_enter Try.func13, Try.ntmps13
  go_wp2_with fail
  refine (eqtexts_any keys keys _ _ _ (HKS.out.grew (((Grew.refl w).alloc _).alloc _)) (HKS2.out.grew (((Grew.refl w).alloc _).alloc _))).mono ?_
  rw [decide_eq_true (rfl : keys = keys)]
  rintro r w3 ⟨rfl, hg3⟩
  have hb1 := heap_alloc_new w (.cells #[.int .i64 k, .int .i64 n, .int .u64 u, .string s, .slice a4 keys.length c4, .slice a5 l.length c5] 27)
  have hb2 := heap_alloc_new (w.alloc (.cells #[.int .i64 k, .int .i64 n, .int .u64 u, .string s, .slice a4 keys.length c4, .slice a5 l.length c5] 27)) (.cells #[.int .i64 k, .int .i64 n, .int .u64 u, .string s, .slice b4 keys.length d4, .slice b5 l2.length d5] 27)
  replace hb1 := hg3.heap (((Grew.refl (w.alloc (.cells #[.int .i64 k, .int .i64 n, .int .u64 u, .string s, .slice a4 keys.length c4, .slice a5 l.length c5] 27))).alloc (.cells #[.int .i64 k, .int .i64 n, .int .u64 u, .string s, .slice b4 keys.length d4, .slice b5 l2.length d5] 27)).heap hb1)
  replace hb2 := hg3.heap hb2
  rw [World.size_alloc] at hb2
  have HB1 := Lib.hid hb1
  have HB2 := Lib.hid hb2
  have HG := Lib.hid ((((Grew.refl w).alloc (.cells #[.int .i64 k, .int .i64 n, .int .u64 u, .string s, .slice a4 keys.length c4, .slice a5 l.length c5] 27)).alloc (.cells #[.int .i64 k, .int .i64 n, .int .u64 u, .string s, .slice b4 keys.length d4, .slice b5 l2.length d5] 27)).trans hg3)
  have c5' := row_cellT hb1 5 _ rfl
  have e5 := row_cellT hb2 5 _ rfl
  obtain ⟨N, hN⟩ : ∃ N, w.heap.size = N := ⟨_, rfl⟩
  rw [hN] at c5' e5 HB1 HB2 ⊢
  clear hb1 hb2 hg3 hN
  by_cases h5 : l.length = l2.length
  rotate_left
  · have hne : Hid (¬ (Tr.mk k n u s keys l = Tr.mk k n u s keys l2)) := fun e => h5 (by injection e with _ _ _ _ _ e; rw [e])
    have hB : ((l.length : Int) != l2.length) = true := by simp; omega
    go_wp2_with fail
    go_ret
    exact ⟨false, rfl, ⟨fun h => absurd h (by decide), fun h => absurd h hne.out⟩, HG.out⟩
  have HL := Lib.hid h5
  have hB : ((l.length : Int) != l2.length) = false := by rw [h5]; simp
  clear h5
  go_wp2_with fail
  clear hB
  go_loopw [5] (fun i wr => ∃ kk : Nat, kk ≤ l.length ∧ i = .int .i64 kk ∧ Hid (l.take kk = l2.take kk ∧ Grew w3 wr)) (fun i _ => l.length - (intOf i).toNat)
  case atStart => exact ⟨0, Nat.zero_le _, rfl, by show _ ∧ _; exact ⟨by simp, Grew.refl _⟩⟩
  case round =>
    obtain ⟨kk, hkk, rfl, HW⟩ := hrel
    replace c5' := HW.out.2.cell c5'
    by_cases hlt : kk < l.length
    · have hlt2 : kk < l2.length := by have := HL.out; omega
      obtain ⟨x, hx⟩ : ∃ x, l[kk]? = some x := ⟨_, List.getElem?_eq_getElem hlt⟩
      obtain ⟨y', hy'⟩ : ∃ y, l2[kk]? = some y := ⟨_, List.getElem?_eq_getElem hlt2⟩
      obtain ⟨xv, hxv, hnx⟩ := HK.out.get hx
      obtain ⟨yv, hyv, hny⟩ := HK2.out.get hy'
      have hxs := HSZ.out x (List.mem_of_getElem? hx)
      obtain ⟨b, off, rfl, hc6⟩ : ∃ b off, a5 = some ⟨b, off, none⟩ ∧ Cells6 wr b (off + kk * 6) xv := by
        obtain ⟨a, c, e, _, _, _, h⟩ := HROWS.out
        injection e with e1 e2 e3
        subst e1
        obtain ⟨b, off, e, h6⟩ := h kk xv hxv
        exact ⟨b, off, e, h6.grew (HG.out.trans HW.out.2)⟩
      obtain ⟨b', off', rfl, hd6⟩ : ∃ b off, b5 = some ⟨b, off, none⟩ ∧ Cells6 wr b (off + kk * 6) yv := by
        obtain ⟨a, c, e, _, _, _, h⟩ := HROWS2.out
        injection e with e1 e2 e3
        subst e1
        obtain ⟨b, off, e, h6⟩ := h kk yv hyv
        exact ⟨b, off, e, h6.grew (HG.out.trans HW.out.2)⟩
      obtain ⟨xk, xn, xu, xs, xa4, xn4, xc4, xa5, xn5, xc5, rfl⟩ := hnx.node6
      obtain ⟨yk, yn, yu, ys, ya4, yn4, yc4, ya5, yn5, yc5, rfl⟩ := hny.node6
      obtain ⟨p0, p1, p2, p3, p4, p5⟩ := hc6.get
      obtain ⟨q0, q1, q2, q3, q4, q5⟩ := hd6.get
      replace e5 := HW.out.2.cell e5
      have HNX := Lib.hid hnx
      have HNY := Lib.hid hny
      have HXY := Lib.hid (And.intro hx hy')
      clear hc6 hd6 hx hy' hxv hyv hnx hny
      have hlti : (kk : Int) < l.length := by omega
      have hltj : (kk : Int) < l2.length := by omega
      go_wp2_with fail
      by_cases hxy : x = y'
      · have HEQ := Lib.hid hxy
        clear hxy
        refine wp_region_tables Grew [[], [0], [], [1, 2], [3], [], [5], [], [6, 7], [8], [4, 9], [10]] [[(58, 2), (59, 3), (60, 4), (61, 5), (62, 6), (63, 7), (64, 8), (65, 9), (66, 10), (67, 11)], [(56, 0), (58, 2), (60, 4), (61, 5), (62, 6), (63, 7), (64, 8), (65, 9), (66, 10), (67, 11)], [(56, 0), (57, 1), (60, 4), (61, 5), (62, 6), (63, 7), (64, 8), (65, 9), (66, 10), (67, 11)], [(56, 0), (57, 1), (58, 2), (61, 5), (62, 6), (63, 7), (64, 8), (65, 9), (66, 10), (67, 11)], [(56, 0), (57, 1), (58, 2), (59, 3), (61, 5), (62, 6), (63, 7), (64, 8), (65, 9), (67, 11)], [(56, 0), (57, 1), (58, 2), (59, 3), (60, 4), (63, 7), (64, 8), (65, 9), (66, 10), (67, 11)], [(56, 0), (57, 1), (58, 2), (59, 3), (60, 4), (61, 5), (63, 7), (65, 9), (66, 10), (67, 11)], [(56, 0), (57, 1), (58, 2), (59, 3), (60, 4), (61, 5), (62, 6), (65, 9), (66, 10), (67, 11)], [(56, 0), (57, 1), (58, 2), (59, 3), (60, 4), (61, 5), (62, 6), (63, 7), (66, 10), (67, 11)], [(56, 0), (57, 1), (58, 2), (59, 3), (60, 4), (61, 5), (62, 6), (63, 7), (64, 8), (67, 11)], [(56, 0), (57, 1), (58, 2), (59, 3), (60, 4), (61, 5), (62, 6), (63, 7), (64, 8), (65, 9)], [(56, 0), (57, 1), (58, 2), (59, 3), (60, 4), (61, 5), (62, 6), (63, 7), (64, 8), (65, 9), (66, 10)]] [(56, 0), (57, 1), (58, 2), (59, 3), (60, 4), (61, 5), (62, 6), (63, 7), (64, 8), (65, 9), (66, 10), (67, 11)]
          [Is (.pointer (some ⟨N, 5, none⟩)), Is (.slice (some ⟨b, off, none⟩) l.length c5), Is (.int .i64 kk), Is (.pointer (some ⟨b, off + kk * 6, none⟩)), Is (.agg #[.int .i64 xk, .int .i64 xn, .int .u64 xu, .string xs, .slice xa4 xn4 xc4, .slice xa5 xn5 xc5]), Is (.pointer (some ⟨N + 1, 5, none⟩)), Is (.slice (some ⟨b', off', none⟩) l2.length d5), Is (.int .i64 kk), Is (.pointer (some ⟨b', off' + kk * 6, none⟩)), Is (.agg #[.int .i64 yk, .int .i64 yn, .int .u64 yu, .string ys, .slice ya4 yn4 yc4, .slice ya5 yn5 yc5]), Is (.bool true), Is (.bool false)]
          (by kernel_rfl) Grew.trans Grew.refl (Grew.refl _).drew (by kernel_rfl) ⟨is_st, is_st, is_st, is_st, is_st, is_st, is_st, is_st, is_st, is_st, is_st, is_st, trivial⟩ ⟨?_, ?_, ?_, ?_, ?_, ?_, ?_, ?_, ?_, ?_, ?_, ?_, trivial⟩ rfl ?_
        · intro y w2' hG hD K hK
          simp only [fillL, Act.put, List.setIfInBounds_toArray, List.set_cons_zero, List.set_cons_succ, List.getD_cons_zero, List.getD_cons_succ, Is] at hK ⊢
          refine ite_yes (by rfl) ?_
          go_simp
          exact hK _ _ _ rfl (Grew.refl _) rfl
        · intro y w2' hG hD K hK
          simp only [depsH, List.getD_cons_zero, List.getD_cons_succ, Is, and_true] at hD
          have h0 := hD
          clear hD
          have dc5' := hG.cell c5'
          have de5 := hG.cell e5
          have dp0 := hG.cell p0
          have dp1 := hG.cell p1
          have dp2 := hG.cell p2
          have dp3 := hG.cell p3
          have dp4 := hG.cell p4
          have dp5 := hG.cell p5
          have dq0 := hG.cell q0
          have dq1 := hG.cell q1
          have dq2 := hG.cell q2
          have dq3 := hG.cell q3
          have dq4 := hG.cell q4
          have dq5 := hG.cell q5
          simp only [fillL, Act.put, List.setIfInBounds_toArray, List.set_cons_zero, List.set_cons_succ, List.getD_cons_zero, List.getD_cons_succ, Is] at hK ⊢
          rw [h0] at hK ⊢
          clear h0
          refine ite_yes (by rfl) ?_
          go_simp
          exact hK _ _ _ rfl (Grew.refl _) rfl
        · intro y w2' hG hD K hK
          simp only [fillL, Act.put, List.setIfInBounds_toArray, List.set_cons_zero, List.set_cons_succ, List.getD_cons_zero, List.getD_cons_succ, Is] at hK ⊢
          refine ite_yes (by rfl) ?_
          go_simp
          exact hK _ _ _ rfl (Grew.refl _) rfl
        · intro y w2' hG hD K hK
          simp only [depsH, List.getD_cons_zero, List.getD_cons_succ, Is, and_true] at hD
          have h1 := hD.1
          have h2 := hD.2
          clear hD
          simp only [fillL, Act.put, List.setIfInBounds_toArray, List.set_cons_zero, List.set_cons_succ, List.getD_cons_zero, List.getD_cons_succ, Is] at hK ⊢
          rw [h1, h2] at hK ⊢
          clear h1 h2
          refine ite_yes (by rfl) ?_
          go_simp
          exact hK _ _ _ rfl (Grew.refl _) rfl
        · intro y w2' hG hD K hK
          simp only [depsH, List.getD_cons_zero, List.getD_cons_succ, Is, and_true] at hD
          have h3 := hD
          clear hD
          have dc5' := hG.cell c5'
          have de5 := hG.cell e5
          have dp0 := hG.cell p0
          have dp1 := hG.cell p1
          have dp2 := hG.cell p2
          have dp3 := hG.cell p3
          have dp4 := hG.cell p4
          have dp5 := hG.cell p5
          have dq0 := hG.cell q0
          have dq1 := hG.cell q1
          have dq2 := hG.cell q2
          have dq3 := hG.cell q3
          have dq4 := hG.cell q4
          have dq5 := hG.cell q5
          simp only [fillL, Act.put, List.setIfInBounds_toArray, List.set_cons_zero, List.set_cons_succ, List.getD_cons_zero, List.getD_cons_succ, Is] at hK ⊢
          rw [h3] at hK ⊢
          clear h3
          refine ite_yes (by rfl) ?_
          go_simp
          exact hK _ _ _ rfl (Grew.refl _) rfl
        · intro y w2' hG hD K hK
          simp only [fillL, Act.put, List.setIfInBounds_toArray, List.set_cons_zero, List.set_cons_succ, List.getD_cons_zero, List.getD_cons_succ, Is] at hK ⊢
          refine ite_yes (by rfl) ?_
          go_simp
          exact hK _ _ _ rfl (Grew.refl _) rfl
        · intro y w2' hG hD K hK
          simp only [depsH, List.getD_cons_zero, List.getD_cons_succ, Is, and_true] at hD
          have h5 := hD
          clear hD
          have dc5' := hG.cell c5'
          have de5 := hG.cell e5
          have dp0 := hG.cell p0
          have dp1 := hG.cell p1
          have dp2 := hG.cell p2
          have dp3 := hG.cell p3
          have dp4 := hG.cell p4
          have dp5 := hG.cell p5
          have dq0 := hG.cell q0
          have dq1 := hG.cell q1
          have dq2 := hG.cell q2
          have dq3 := hG.cell q3
          have dq4 := hG.cell q4
          have dq5 := hG.cell q5
          simp only [fillL, Act.put, List.setIfInBounds_toArray, List.set_cons_zero, List.set_cons_succ, List.getD_cons_zero, List.getD_cons_succ, Is] at hK ⊢
          rw [h5] at hK ⊢
          clear h5
          refine ite_yes (by rfl) ?_
          go_simp
          exact hK _ _ _ rfl (Grew.refl _) rfl
        · intro y w2' hG hD K hK
          simp only [fillL, Act.put, List.setIfInBounds_toArray, List.set_cons_zero, List.set_cons_succ, List.getD_cons_zero, List.getD_cons_succ, Is] at hK ⊢
          refine ite_yes (by rfl) ?_
          go_simp
          exact hK _ _ _ rfl (Grew.refl _) rfl
        · intro y w2' hG hD K hK
          simp only [depsH, List.getD_cons_zero, List.getD_cons_succ, Is, and_true] at hD
          have h6 := hD.1
          have h7 := hD.2
          clear hD
          simp only [fillL, Act.put, List.setIfInBounds_toArray, List.set_cons_zero, List.set_cons_succ, List.getD_cons_zero, List.getD_cons_succ, Is] at hK ⊢
          rw [h6, h7] at hK ⊢
          clear h6 h7
          refine ite_yes (by rfl) ?_
          go_simp
          exact hK _ _ _ rfl (Grew.refl _) rfl
        · intro y w2' hG hD K hK
          simp only [depsH, List.getD_cons_zero, List.getD_cons_succ, Is, and_true] at hD
          have h8 := hD
          clear hD
          have dc5' := hG.cell c5'
          have de5 := hG.cell e5
          have dp0 := hG.cell p0
          have dp1 := hG.cell p1
          have dp2 := hG.cell p2
          have dp3 := hG.cell p3
          have dp4 := hG.cell p4
          have dp5 := hG.cell p5
          have dq0 := hG.cell q0
          have dq1 := hG.cell q1
          have dq2 := hG.cell q2
          have dq3 := hG.cell q3
          have dq4 := hG.cell q4
          have dq5 := hG.cell q5
          simp only [fillL, Act.put, List.setIfInBounds_toArray, List.set_cons_zero, List.set_cons_succ, List.getD_cons_zero, List.getD_cons_succ, Is] at hK ⊢
          rw [h8] at hK ⊢
          clear h8
          refine ite_yes (by rfl) ?_
          go_simp
          exact hK _ _ _ rfl (Grew.refl _) rfl
        · intro y w2' hG hD K hK
          simp only [depsH, List.getD_cons_zero, List.getD_cons_succ, Is, and_true] at hD
          have h4 := hD.1
          have h9 := hD.2
          clear hD
          simp only [fillL, Act.put, List.setIfInBounds_toArray, List.set_cons_zero, List.set_cons_succ, List.getD_cons_zero, List.getD_cons_succ, Is] at hK ⊢
          rw [h4, h9] at hK ⊢
          clear h4 h9
          refine ite_yes (by rfl) ?_
          go_simp
          refine (ih x hxs y' _ _ _ (HNX.out.grew (HG.out.trans (HW.out.2.trans hG))) (HNY.out.grew (HG.out.trans (HW.out.2.trans hG)))).mono ?_
          rintro r w4 ⟨bb, rfl, hbb, hg⟩
          obtain rfl : bb = true := hbb.2 HEQ.out
          exact hK _ _ _ rfl hg rfl
        · intro y w2' hG hD K hK
          simp only [depsH, List.getD_cons_zero, List.getD_cons_succ, Is, and_true] at hD
          have h10 := hD
          clear hD
          simp only [fillL, Act.put, List.setIfInBounds_toArray, List.set_cons_zero, List.set_cons_succ, List.getD_cons_zero, List.getD_cons_succ, Is] at hK ⊢
          rw [h10] at hK ⊢
          clear h10
          refine ite_yes (by rfl) ?_
          go_simp
          exact hK _ _ _ rfl (Grew.refl _) rfl
        · intro y w2' hG hF
          simp only [factsH, Is, and_true, Nat.reduceAdd] at hF
          have h0 := hF.1
          have h1 := hF.2.1
          have h2 := hF.2.2.1
          have h3 := hF.2.2.2.1
          have h4 := hF.2.2.2.2.1
          have h5 := hF.2.2.2.2.2.1
          have h6 := hF.2.2.2.2.2.2.1
          have h7 := hF.2.2.2.2.2.2.2.1
          have h8 := hF.2.2.2.2.2.2.2.2.1
          have h9 := hF.2.2.2.2.2.2.2.2.2.1
          have h10 := hF.2.2.2.2.2.2.2.2.2.2.1
          have h11 := hF.2.2.2.2.2.2.2.2.2.2.2
          clear hF
          simp only [fillL, Act.put, List.setIfInBounds_toArray, List.set_cons_zero, List.set_cons_succ, List.getD_cons_zero, List.getD_cons_succ, Is]
          rw [h0, h1, h2, h3, h4, h5, h6, h7, h8, h9, h10, h11]
          clear h0 h1 h2 h3 h4 h5 h6 h7 h8 h9 h10 h11
          have HGW := Lib.hid (HW.out.2.trans hG)
          clear hG
          go_wp2_with fail
          go_roundw
          case rel => exact ⟨kk + 1, by omega, by go_num, by
            show _ ∧ _
            obtain ⟨h1, h2⟩ := HXY.out
            exact ⟨by rw [List.take_add_one, List.take_add_one, HW.out.1, h1, h2, HEQ.out], HGW.out⟩⟩
          case measure => simp [intOf]; omega
      · have HEQ := Lib.hid hxy
        clear hxy
        refine wp_region_tables Grew [[], [0], [], [1, 2], [3], [], [5], [], [6, 7], [8], [4, 9], [10]] [[(58, 2), (59, 3), (60, 4), (61, 5), (62, 6), (63, 7), (64, 8), (65, 9), (66, 10), (67, 11)], [(56, 0), (58, 2), (60, 4), (61, 5), (62, 6), (63, 7), (64, 8), (65, 9), (66, 10), (67, 11)], [(56, 0), (57, 1), (60, 4), (61, 5), (62, 6), (63, 7), (64, 8), (65, 9), (66, 10), (67, 11)], [(56, 0), (57, 1), (58, 2), (61, 5), (62, 6), (63, 7), (64, 8), (65, 9), (66, 10), (67, 11)], [(56, 0), (57, 1), (58, 2), (59, 3), (61, 5), (62, 6), (63, 7), (64, 8), (65, 9), (67, 11)], [(56, 0), (57, 1), (58, 2), (59, 3), (60, 4), (63, 7), (64, 8), (65, 9), (66, 10), (67, 11)], [(56, 0), (57, 1), (58, 2), (59, 3), (60, 4), (61, 5), (63, 7), (65, 9), (66, 10), (67, 11)], [(56, 0), (57, 1), (58, 2), (59, 3), (60, 4), (61, 5), (62, 6), (65, 9), (66, 10), (67, 11)], [(56, 0), (57, 1), (58, 2), (59, 3), (60, 4), (61, 5), (62, 6), (63, 7), (66, 10), (67, 11)], [(56, 0), (57, 1), (58, 2), (59, 3), (60, 4), (61, 5), (62, 6), (63, 7), (64, 8), (67, 11)], [(56, 0), (57, 1), (58, 2), (59, 3), (60, 4), (61, 5), (62, 6), (63, 7), (64, 8), (65, 9)], [(56, 0), (57, 1), (58, 2), (59, 3), (60, 4), (61, 5), (62, 6), (63, 7), (64, 8), (65, 9), (66, 10)]] [(56, 0), (57, 1), (58, 2), (59, 3), (60, 4), (61, 5), (62, 6), (63, 7), (64, 8), (65, 9), (66, 10), (67, 11)]
          [Is (.pointer (some ⟨N, 5, none⟩)), Is (.slice (some ⟨b, off, none⟩) l.length c5), Is (.int .i64 kk), Is (.pointer (some ⟨b, off + kk * 6, none⟩)), Is (.agg #[.int .i64 xk, .int .i64 xn, .int .u64 xu, .string xs, .slice xa4 xn4 xc4, .slice xa5 xn5 xc5]), Is (.pointer (some ⟨N + 1, 5, none⟩)), Is (.slice (some ⟨b', off', none⟩) l2.length d5), Is (.int .i64 kk), Is (.pointer (some ⟨b', off' + kk * 6, none⟩)), Is (.agg #[.int .i64 yk, .int .i64 yn, .int .u64 yu, .string ys, .slice ya4 yn4 yc4, .slice ya5 yn5 yc5]), Is (.bool false), Is (.bool true)]
          (by kernel_rfl) Grew.trans Grew.refl (Grew.refl _).drew (by kernel_rfl) ⟨is_st, is_st, is_st, is_st, is_st, is_st, is_st, is_st, is_st, is_st, is_st, is_st, trivial⟩ ⟨?_, ?_, ?_, ?_, ?_, ?_, ?_, ?_, ?_, ?_, ?_, ?_, trivial⟩ rfl ?_
        · intro y w2' hG hD K hK
          simp only [fillL, Act.put, List.setIfInBounds_toArray, List.set_cons_zero, List.set_cons_succ, List.getD_cons_zero, List.getD_cons_succ, Is] at hK ⊢
          refine ite_yes (by rfl) ?_
          go_simp
          exact hK _ _ _ rfl (Grew.refl _) rfl
        · intro y w2' hG hD K hK
          simp only [depsH, List.getD_cons_zero, List.getD_cons_succ, Is, and_true] at hD
          have h0 := hD
          clear hD
          have dc5' := hG.cell c5'
          have de5 := hG.cell e5
          have dp0 := hG.cell p0
          have dp1 := hG.cell p1
          have dp2 := hG.cell p2
          have dp3 := hG.cell p3
          have dp4 := hG.cell p4
          have dp5 := hG.cell p5
          have dq0 := hG.cell q0
          have dq1 := hG.cell q1
          have dq2 := hG.cell q2
          have dq3 := hG.cell q3
          have dq4 := hG.cell q4
          have dq5 := hG.cell q5
          simp only [fillL, Act.put, List.setIfInBounds_toArray, List.set_cons_zero, List.set_cons_succ, List.getD_cons_zero, List.getD_cons_succ, Is] at hK ⊢
          rw [h0] at hK ⊢
          clear h0
          refine ite_yes (by rfl) ?_
          go_simp
          exact hK _ _ _ rfl (Grew.refl _) rfl
        · intro y w2' hG hD K hK
          simp only [fillL, Act.put, List.setIfInBounds_toArray, List.set_cons_zero, List.set_cons_succ, List.getD_cons_zero, List.getD_cons_succ, Is] at hK ⊢
          refine ite_yes (by rfl) ?_
          go_simp
          exact hK _ _ _ rfl (Grew.refl _) rfl
        · intro y w2' hG hD K hK
          simp only [depsH, List.getD_cons_zero, List.getD_cons_succ, Is, and_true] at hD
          have h1 := hD.1
          have h2 := hD.2
          clear hD
          simp only [fillL, Act.put, List.setIfInBounds_toArray, List.set_cons_zero, List.set_cons_succ, List.getD_cons_zero, List.getD_cons_succ, Is] at hK ⊢
          rw [h1, h2] at hK ⊢
          clear h1 h2
          refine ite_yes (by rfl) ?_
          go_simp
          exact hK _ _ _ rfl (Grew.refl _) rfl
        · intro y w2' hG hD K hK
          simp only [depsH, List.getD_cons_zero, List.getD_cons_succ, Is, and_true] at hD
          have h3 := hD
          clear hD
          have dc5' := hG.cell c5'
          have de5 := hG.cell e5
          have dp0 := hG.cell p0
          have dp1 := hG.cell p1
          have dp2 := hG.cell p2
          have dp3 := hG.cell p3
          have dp4 := hG.cell p4
          have dp5 := hG.cell p5
          have dq0 := hG.cell q0
          have dq1 := hG.cell q1
          have dq2 := hG.cell q2
          have dq3 := hG.cell q3
          have dq4 := hG.cell q4
          have dq5 := hG.cell q5
          simp only [fillL, Act.put, List.setIfInBounds_toArray, List.set_cons_zero, List.set_cons_succ, List.getD_cons_zero, List.getD_cons_succ, Is] at hK ⊢
          rw [h3] at hK ⊢
          clear h3
          refine ite_yes (by rfl) ?_
          go_simp
          exact hK _ _ _ rfl (Grew.refl _) rfl
        · intro y w2' hG hD K hK
          simp only [fillL, Act.put, List.setIfInBounds_toArray, List.set_cons_zero, List.set_cons_succ, List.getD_cons_zero, List.getD_cons_succ, Is] at hK ⊢
          refine ite_yes (by rfl) ?_
          go_simp
          exact hK _ _ _ rfl (Grew.refl _) rfl
        · intro y w2' hG hD K hK
          simp only [depsH, List.getD_cons_zero, List.getD_cons_succ, Is, and_true] at hD
          have h5 := hD
          clear hD
          have dc5' := hG.cell c5'
          have de5 := hG.cell e5
          have dp0 := hG.cell p0
          have dp1 := hG.cell p1
          have dp2 := hG.cell p2
          have dp3 := hG.cell p3
          have dp4 := hG.cell p4
          have dp5 := hG.cell p5
          have dq0 := hG.cell q0
          have dq1 := hG.cell q1
          have dq2 := hG.cell q2
          have dq3 := hG.cell q3
          have dq4 := hG.cell q4
          have dq5 := hG.cell q5
          simp only [fillL, Act.put, List.setIfInBounds_toArray, List.set_cons_zero, List.set_cons_succ, List.getD_cons_zero, List.getD_cons_succ, Is] at hK ⊢
          rw [h5] at hK ⊢
          clear h5
          refine ite_yes (by rfl) ?_
          go_simp
          exact hK _ _ _ rfl (Grew.refl _) rfl
        · intro y w2' hG hD K hK
          simp only [fillL, Act.put, List.setIfInBounds_toArray, List.set_cons_zero, List.set_cons_succ, List.getD_cons_zero, List.getD_cons_succ, Is] at hK ⊢
          refine ite_yes (by rfl) ?_
          go_simp
          exact hK _ _ _ rfl (Grew.refl _) rfl
        · intro y w2' hG hD K hK
          simp only [depsH, List.getD_cons_zero, List.getD_cons_succ, Is, and_true] at hD
          have h6 := hD.1
          have h7 := hD.2
          clear hD
          simp only [fillL, Act.put, List.setIfInBounds_toArray, List.set_cons_zero, List.set_cons_succ, List.getD_cons_zero, List.getD_cons_succ, Is] at hK ⊢
          rw [h6, h7] at hK ⊢
          clear h6 h7
          refine ite_yes (by rfl) ?_
          go_simp
          exact hK _ _ _ rfl (Grew.refl _) rfl
        · intro y w2' hG hD K hK
          simp only [depsH, List.getD_cons_zero, List.getD_cons_succ, Is, and_true] at hD
          have h8 := hD
          clear hD
          have dc5' := hG.cell c5'
          have de5 := hG.cell e5
          have dp0 := hG.cell p0
          have dp1 := hG.cell p1
          have dp2 := hG.cell p2
          have dp3 := hG.cell p3
          have dp4 := hG.cell p4
          have dp5 := hG.cell p5
          have dq0 := hG.cell q0
          have dq1 := hG.cell q1
          have dq2 := hG.cell q2
          have dq3 := hG.cell q3
          have dq4 := hG.cell q4
          have dq5 := hG.cell q5
          simp only [fillL, Act.put, List.setIfInBounds_toArray, List.set_cons_zero, List.set_cons_succ, List.getD_cons_zero, List.getD_cons_succ, Is] at hK ⊢
          rw [h8] at hK ⊢
          clear h8
          refine ite_yes (by rfl) ?_
          go_simp
          exact hK _ _ _ rfl (Grew.refl _) rfl
        · intro y w2' hG hD K hK
          simp only [depsH, List.getD_cons_zero, List.getD_cons_succ, Is, and_true] at hD
          have h4 := hD.1
          have h9 := hD.2
          clear hD
          simp only [fillL, Act.put, List.setIfInBounds_toArray, List.set_cons_zero, List.set_cons_succ, List.getD_cons_zero, List.getD_cons_succ, Is] at hK ⊢
          rw [h4, h9] at hK ⊢
          clear h4 h9
          refine ite_yes (by rfl) ?_
          go_simp
          refine (ih x hxs y' _ _ _ (HNX.out.grew (HG.out.trans (HW.out.2.trans hG))) (HNY.out.grew (HG.out.trans (HW.out.2.trans hG)))).mono ?_
          rintro r w4 ⟨bb, rfl, hbb, hg⟩
          obtain rfl : bb = false := by cases bb; rfl; exact absurd (hbb.1 rfl) HEQ.out
          exact hK _ _ _ rfl hg rfl
        · intro y w2' hG hD K hK
          simp only [depsH, List.getD_cons_zero, List.getD_cons_succ, Is, and_true] at hD
          have h10 := hD
          clear hD
          simp only [fillL, Act.put, List.setIfInBounds_toArray, List.set_cons_zero, List.set_cons_succ, List.getD_cons_zero, List.getD_cons_succ, Is] at hK ⊢
          rw [h10] at hK ⊢
          clear h10
          refine ite_yes (by rfl) ?_
          go_simp
          exact hK _ _ _ rfl (Grew.refl _) rfl
        · intro y w2' hG hF
          simp only [factsH, Is, and_true, Nat.reduceAdd] at hF
          have h0 := hF.1
          have h1 := hF.2.1
          have h2 := hF.2.2.1
          have h3 := hF.2.2.2.1
          have h4 := hF.2.2.2.2.1
          have h5 := hF.2.2.2.2.2.1
          have h6 := hF.2.2.2.2.2.2.1
          have h7 := hF.2.2.2.2.2.2.2.1
          have h8 := hF.2.2.2.2.2.2.2.2.1
          have h9 := hF.2.2.2.2.2.2.2.2.2.1
          have h10 := hF.2.2.2.2.2.2.2.2.2.2.1
          have h11 := hF.2.2.2.2.2.2.2.2.2.2.2
          clear hF
          simp only [fillL, Act.put, List.setIfInBounds_toArray, List.set_cons_zero, List.set_cons_succ, List.getD_cons_zero, List.getD_cons_succ, Is]
          rw [h0, h1, h2, h3, h4, h5, h6, h7, h8, h9, h10, h11]
          clear h0 h1 h2 h3 h4 h5 h6 h7 h8 h9 h10 h11
          have HGW := Lib.hid (HW.out.2.trans hG)
          clear hG
          have hne : Hid (¬ (Tr.mk k n u s keys l = Tr.mk k n u s keys l2)) := fun e => HEQ.out (by
            injection e with _ _ _ _ _ e
            obtain ⟨h1, h2⟩ := HXY.out
            rw [e, h2] at h1
            injection h1 with h1
            exact h1.symm)
          go_wp2_with fail
          go_ret
          exact ⟨false, rfl, ⟨fun h => absurd h (by decide), fun h => absurd h hne.out⟩, HG.out.trans HGW.out⟩
    · have ek : kk = l.length := by omega
      subst ek
      have heq : Hid (l = l2) := by
        show _ = _
        have h := HW.out.1
        rw [List.take_length, HL.out, List.take_length] at h
        exact h
      go_wp2_with fail
      go_ret
      exact ⟨true, rfl, ⟨fun _ => by rw [heq.out], fun _ => rfl⟩, HG.out.trans HW.out.2⟩
end Go.Proofs.Ytlhliolknaopjaa

/-
  Trees: the program's copies (slices.Clone of strings, tree.Copy). Conditions: the node lies in memory; rows of at most 4096.
-/
namespace Go.Proofs.Ytlhliolknaopjaa
open Go Go.ChangeShapes Go.WideShapes Go.ChangeAt Go.RowKit Go.Joins Go.Deep
set_option linter.unusedVariables false
set_option linter.unusedSimpArgs false

theorem OwnS.empty (w : World) : OwnS (w.alloc (.cells #[] 9)) w.heap.size (.slice (some ⟨w.heap.size, 0, none⟩) 0 0) [] := World.ownsRow_made w #[] 0 (Nat.le_refl _) (by decide) rfl
end Go.Proofs.Ytlhliolknaopjaa

/-
  Trees: the table of kinds (uses, part).
-/
namespace Go.Proofs.Ytlhliolknaopjaa
open Go Go.ChangeShapes Go.WideShapes Go.ChangeAt Go.RowKit Go.Joins Go.Deep
set_option linter.unusedVariables false
set_option linter.unusedSimpArgs false

/-- The fields that a kind uses: N 1, U 2, S 4, Keys 8. -/
def usesF (k : Int) : Int :=
  if k = 2 ∨ k = 3 ∨ k = 8 then 1 else if k = 4 ∨ k = 9 then 2 else if k = 5 ∨ k = 6 ∨ k = 7 then 4 else if k = 17 then 8 else 0
/-- The children's kind: 0 any, -1 none. -/
def partF (k : Int) : Int :=
  if k = 10 ∨ k = 17 then 0 else if k = 11 ∨ k = 15 then 3 else if k = 12 ∨ k = 16 then 4 else if k = 13 then 5 else if k = 14 then 2 else -1
theorem kinds (k : Int) (h1 : 1 ≤ k) (h2 : k ≤ 17) : k = 1 ∨ k = 2 ∨ k = 3 ∨ k = 4 ∨ k = 5 ∨ k = 6 ∨ k = 7 ∨ k = 8 ∨ k = 9 ∨ k = 10 ∨ k = 11 ∨ k = 12 ∨ k = 13 ∨ k = 14 ∨ k = 15 ∨ k = 16 ∨ k = 17 := by omega
end Go.Proofs.Ytlhliolknaopjaa

/-
  Trees: whether a child of another kind is among the children (the closure in such, slices.IndexFunc, slices.ContainsFunc).
-/
namespace Go.Proofs.Ytlhliolknaopjaa
open Go Go.ChangeShapes Go.WideShapes Go.ChangeAt Go.RowKit Go.Joins Go.Deep
set_option linter.unusedVariables false
set_option linter.unusedSimpArgs false

def otherB (p : Int) (x : Tr) : Bool := p != 0 && x.kind != p
end Go.Proofs.Ytlhliolknaopjaa

/-
  DERIVED: THE SHELF's CONTRACTS AT THIS DUMP, IN PLAIN WORDS (tools/lay-plain.mjs out of 'TryShelf.lean', which tools/lay-shelf.mjs wrote): THE SAME DECLARATIONS UNDER THE SAME NAMES: 'import', 'namespace', 'open', 'def', 'theorem' AND NOTHING ELSE: no command of the shelf's: FOR A HAND-IN. Each laying: the table of numbers ('.._ren') and one theorem, a field a fact of the dump's own or the kernel's comparison; each contract: ONE APPLICATION.
-/
namespace Go.Proofs
open Go.Shelf
def Try.lays137_ren : Go.Shelf.Ren := ⟨fun | 137 => 67 | 217 => 92 | 266 => 108 | n => n, fun | 9 => 9 | 5 => 5 | 3 => 3 | n => n, fun | n => n⟩
theorem Try.lays137 : Go.Proofs.Lays.n137 Try.prog Try.lays137_ren := {
  mixed := by kernel_rfl
  f137 := Try.func67.trans (congrArg some (by kernel_rfl))
  f217 := Try.func92.trans (congrArg some (by kernel_rfl))
  f266 := Try.func108.trans (congrArg some (by kernel_rfl))
  t3 := Try.underlying3
  a3 := Try.isAgg3
  z3 := Try.sizeOf3
  v3 := Try.zeroValue3
  t5 := Try.underlying5
  a5 := Try.isAgg5
  z5 := Try.sizeOf5
  v5 := Try.zeroValue5
  t9 := Try.underlying9
  a9 := Try.isAgg9
  z9 := Try.sizeOf9
  v9 := Try.zeroValue9 }
open Go.RowKit in
/-- strings.IndexByte: "IndexByte returns the index of the first instance of c in s, or -1 if c is not present in s.": IT RETURNS 'Lib.indexByte s c'; the world is as it was. (LAID: no walk: one application.) -/
theorem Try.strings_IndexByte (s : ByteArray) (c : Int) (w : World) :
    Calls Try.prog 67 #[.string s, .int .u8 c] w fun e w' => e = .returned (.int .i64 (Lib.indexByte s.data.toList c.toNat.toUInt8)) ∧ w' = w := Any.strings_IndexByte Try.lays137 s c w
end Go.Proofs

/-
  Trees: the first error in the keys of a node (keyed). Conditions: the node lies in memory; at most 4096 keys.
-/
namespace Go.Proofs.Ytlhliolknaopjaa
open Go Go.ChangeShapes Go.WideShapes Go.ChangeAt Go.RowKit Go.Joins Go.Deep
set_option linter.unusedVariables false
set_option linter.unusedSimpArgs false

/-- Whether the byte 00 occurs. -/
def zeroB (s : ByteArray) : Bool := decide ((0 : UInt8) ∈ s.data.toList)
/-- Whether a string occurs in a list. -/
def seenB (k : ByteArray) (l : List ByteArray) : Bool := l.any fun x => decide (x = k)
/-- The errors of a list of keys, those of had being there already. -/
def keysE : List ByteArray → List ByteArray → Int
  | _, [] => 0
  | had, k :: r => if zeroB k = true then 70 else if seenB k had = true then 71 else keysE (had ++ [k]) r
def keyedE : Tr → Int | .mk k n u s keys l => if k = 5 ∧ zeroB s = true then 70 else keysE [] keys

end Go.Proofs.Ytlhliolknaopjaa

/-
  Keys: the comparison that Order sorts by. Conditions: the list lies in memory, the indices are in range.
-/
namespace Go.Proofs.Ytlhliolknaopjaa
open Go Go.ChangeShapes Go.WideShapes Go.ChangeAt Go.RowKit Go.Joins Go.Deep
set_option linter.unusedVariables false
set_option linter.unusedSimpArgs false

end Go.Proofs.Ytlhliolknaopjaa

/-
  Keys: the order of byte strings, plain; the worlds that the sort passes through.
-/
namespace Go.Proofs.Ytlhliolknaopjaa
open Go Go.ChangeShapes Go.WideShapes Go.ChangeAt Go.RowKit Go.Joins Go.Deep
set_option linter.unusedVariables false
set_option linter.unusedSimpArgs false

abbrev cmpB := Lib.compareBytes
/-- a precedes b bytewise. -/
def ltS (a b : ByteArray) : Bool := decide (cmpB a.data.toList b.data.toList < 0)
end Go.Proofs.Ytlhliolknaopjaa

/-
  Keys: the library's sort at Order's comparison. Conditions: the list and the row of indices lie in memory, in different blocks.
-/
namespace Go.Proofs.Ytlhliolknaopjaa
open Go Go.ChangeShapes Go.WideShapes Go.ChangeAt Go.RowKit Go.Joins Go.Deep
set_option linter.unusedVariables false
set_option linter.unusedSimpArgs false

theorem StrsAt.moved {S : Nat → Prop} {w w' : World} {v : Value} {ks : List ByteArray} (h : StrsAt w v ks) (hm : Moved S w w') (hS : ∀ a n c, v = .slice (some a) n c → ¬ S a.block) : StrsAt w' v ks := by
  obtain ⟨a, c, rfl, h2, h3, h4, h5⟩ := h
  refine ⟨a, c, rfl, h2, h3, h4, fun i s hs => ?_⟩
  obtain ⟨hz, b, off, e, hc⟩ := h5 i s hs
  subst e
  exact ⟨hz, b, off, rfl, hm.cell (p := ⟨b, off + i, none⟩) hc (hS ⟨b, off, none⟩ _ _ rfl)⟩
end Go.Proofs.Ytlhliolknaopjaa

/-
  Keys: Order. Conditions: the list lies in memory, at most 4096 keys.
-/
namespace Go.Proofs.Ytlhliolknaopjaa
open Go Go.ChangeShapes Go.WideShapes Go.ChangeAt Go.RowKit Go.Joins Go.Deep
set_option linter.unusedVariables false
set_option linter.unusedSimpArgs false

end Go.Proofs.Ytlhliolknaopjaa

/-
  Keys: Check, Less. Conditions: none.
-/
namespace Go.Proofs.Ytlhliolknaopjaa
open Go Go.ChangeShapes Go.WideShapes Go.ChangeAt Go.RowKit Go.Joins Go.Deep
set_option linter.unusedVariables false
set_option linter.unusedSimpArgs false

/-- Whether a key holds the byte 00, as an error. -/
def keyE (s : ByteArray) : Int := if 0 ≤ Lib.indexByte s.data.toList 0 then 70 else 0
set_option maxRecDepth 100000 in
theorem kcheck_any (s : ByteArray) (w : World) : Calls Try.prog 99 #[.string s] w fun r w' => r = .returned (.int .i64 (keyE s)) ∧ w = w' := by
  have hc := Try.strings_IndexByte s 0 w
  rw [show ((0 : Int).toNat.toUInt8) = 0 from rfl] at hc
  have HE : Hid (keyE s = if 0 ≤ Lib.indexByte s.data.toList 0 then 70 else 0) := rfl
  generalize Lib.indexByte s.data.toList 0 = q at *
  have HC := Lib.hid hc
  clear hc
  by_cases hq : 0 ≤ q
  · have H2 : Hid (keyE s = 70) := by show _ = _; rw [HE.out, if_pos hq]
    go_enter Try.func99, Try.ntmps99
    go_wp2_with fail
    refine HC.out.mono ?_
    rintro r w' ⟨rfl, rfl⟩
    go_wp2_with fail
    go_ret
    exact ⟨by rw [H2.out]; rfl, rfl⟩
  · have H2 : Hid (keyE s = 0) := by show _ = _; rw [HE.out, if_neg hq]
    go_enter Try.func99, Try.ntmps99
    go_wp2_with fail
    refine HC.out.mono ?_
    rintro r w' ⟨rfl, rfl⟩
    go_wp2_with fail
    go_ret
    exact ⟨by rw [H2.out]; rfl, rfl⟩
theorem bytesLess_eq : ∀ a b : List UInt8, Op.bytesLess a b = decide (cmpB a b < 0)
  | [], [] => by simp [Op.bytesLess, cmpB, Lib.compareBytes]
  | [], _ :: _ => by simp [Op.bytesLess, cmpB, Lib.compareBytes]
  | _ :: _, [] => by simp [Op.bytesLess, cmpB, Lib.compareBytes]
  | x :: a, y :: b => by
    have ih := bytesLess_eq a b
    have hc : cmpB (x :: a) (y :: b) = if x < y then (-1 : Int) else if y < x then 1 else cmpB a b := rfl
    rw [hc]
    unfold Op.bytesLess
    by_cases h1 : x < y
    · simp [h1]
    · by_cases h2 : y < x
      · have h3 : ¬ x = y := fun e => by subst e; exact UInt8.lt_irrefl _ h2
        simp [h1, h2, h3]
      · have h3 : x = y := by
          apply UInt8.toNat_inj.1
          have q1 : ¬ x.toNat < y.toNat := fun h => h1 (UInt8.lt_iff_toNat_lt.2 h)
          have q2 : ¬ y.toNat < x.toNat := fun h => h2 (UInt8.lt_iff_toNat_lt.2 h)
          omega
        simp [h1, h2, h3, ih]
theorem less_eq (a b : ByteArray) : Op.bytesLess a.toList b.toList = ltS a b := by
  rw [ByteArray.toList_eq, ByteArray.toList_eq, bytesLess_eq]; rfl
set_option maxRecDepth 100000 in
theorem kless_any (a b : ByteArray) (w : World) : Calls Try.prog 102 #[.string a, .string b] w fun r w' => r = .returned (.bool (ltS a b)) ∧ w = w' := by
  go_enter Try.func102, Try.ntmps102
  go_wp2_with fail
  go_ret
  refine ⟨?_, rfl⟩
  show Ending.returned (.bool (Op.bytesLess a.toList b.toList)) = _
  rw [less_eq]
end Go.Proofs.Ytlhliolknaopjaa

/-
  Keys: Find. Conditions: the list lies in memory.
-/
namespace Go.Proofs.Ytlhliolknaopjaa
open Go Go.ChangeShapes Go.WideShapes Go.ChangeAt Go.RowKit Go.Joins Go.Deep
set_option linter.unusedVariables false
set_option linter.unusedSimpArgs false

end Go.Proofs.Ytlhliolknaopjaa

/-
  Keys: the reference's Less. Conditions: none beyond the lengths.
-/
namespace Go.Proofs.Ytlhliolknaopjaa
open Go Go.ChangeShapes Go.WideShapes Go.ChangeAt Go.RowKit Go.Joins Go.Deep
set_option linter.unusedVariables false
set_option linter.unusedSimpArgs false

/-- Where two lists first differ. -/
theorem cmpB_take (a b : List UInt8) (k : Nat) (h : a.take k = b.take k) : cmpB a b = cmpB (a.drop k) (b.drop k) := by
  induction k generalizing a b with
  | zero => simp
  | succ k ih =>
    cases a with
    | nil => cases b with
      | nil => simp
      | cons y b => simp at h
    | cons x a => cases b with
      | nil => simp at h
      | cons y b =>
        simp at h
        obtain ⟨rfl, h⟩ := h
        show (if x < x then (-1 : Int) else if x < x then 1 else cmpB a b) = cmpB (a.drop k) (b.drop k)
        rw [if_neg (UInt8.lt_irrefl x), if_neg (UInt8.lt_irrefl x), ih a b h]
theorem ba_get (a : ByteArray) (k : Nat) (h : k < a.size) : a.data.toList[k]? = some a[k] := by
  rw [List.getElem?_eq_getElem (by simpa using h)]; rfl
theorem ba_len (a : ByteArray) : a.data.toList.length = a.size := by simp
theorem ltS_at (a b : ByteArray) (k : Nat) (h1 : k < a.size) (h2 : k < b.size) (ht : a.data.toList.take k = b.data.toList.take k) (hne : ¬ a[k] = b[k]) : ltS a b = decide ((a[k].toNat : Int) < (b[k].toNat : Int)) := by
  unfold ltS
  rw [cmpB_take _ _ k ht]
  obtain ⟨hl1, e1⟩ := List.getElem?_eq_some_iff.1 (ba_get a k h1)
  obtain ⟨hl2, e2⟩ := List.getElem?_eq_some_iff.1 (ba_get b k h2)
  rw [List.drop_eq_getElem_cons hl1, List.drop_eq_getElem_cons hl2, e1, e2]
  show decide ((if a[k] < b[k] then (-1 : Int) else if b[k] < a[k] then 1 else _) < 0) = _
  have hnn : ¬ a[k].toNat = b[k].toNat := fun e => hne (UInt8.toNat_inj.1 e)
  by_cases h : a[k] < b[k]
  · have := UInt8.lt_iff_toNat_lt.1 h
    rw [if_pos h, decide_eq_true (by omega), decide_eq_true (by omega)]
  · have h' : ¬ a[k].toNat < b[k].toNat := fun e => h (UInt8.lt_iff_toNat_lt.2 e)
    rw [if_neg h, if_pos (UInt8.lt_iff_toNat_lt.2 (by omega)), decide_eq_false (by omega), decide_eq_false (by omega)]
theorem ltS_end (a b : ByteArray) (k : Nat) (h1 : k ≤ a.size) (h2 : k ≤ b.size) (ht : a.data.toList.take k = b.data.toList.take k) (hk : k = a.size ∨ k = b.size) : ltS a b = decide ((a.size : Int) < (b.size : Int)) := by
  unfold ltS
  rw [cmpB_take _ _ k ht]
  by_cases ha : k = a.size
  · rw [List.drop_eq_nil_iff.2 (by rw [ba_len]; omega)]
    cases hd : b.data.toList.drop k with
    | nil =>
      have := List.drop_eq_nil_iff.1 hd
      rw [ba_len] at this
      rw [decide_eq_false (by simp [cmpB, Lib.compareBytes]), decide_eq_false (by omega)]
    | cons y r =>
      have hlt : k < b.size := by
        have h3 := congrArg List.length hd
        rw [List.length_drop, ba_len] at h3
        simp at h3; omega
      rw [decide_eq_true (by simp [cmpB, Lib.compareBytes]), decide_eq_true (by omega)]
  · have hkb : k = b.size := by omega
    rw [List.drop_eq_nil_iff.2 (show b.data.toList.length ≤ k by rw [ba_len]; omega)]
    have : ¬ cmpB (a.data.toList.drop k) [] < 0 := by cases a.data.toList.drop k <;> simp [cmpB, Lib.compareBytes]
    rw [decide_eq_false this, decide_eq_false (by omega)]
theorem drewN_more {w wr : World} {n : Nat} (h : ∃ q, wr = w.drewN q) : ∃ q, wr.drewN n = w.drewN q := by
  obtain ⟨q, rfl⟩ := h
  exact ⟨q + n, by simp [World.drewN, Nat.add_assoc]⟩
set_option maxRecDepth 100000 in
set_option maxHeartbeats 1000000 in
theorem rless_any (a b : ByteArray) (w : World) (ha : lenok a.size) (hb : lenok b.size) : Calls Try.prog 107 #[.string a, .string b] w fun r w' => r = .returned (.bool (ltS a b)) ∧ ∃ q, w' = w.drewN q := by
  unfold lenok at ha hb
  go_enter Try.func107, Try.ntmps107
  go_wp2_with fail
  go_loopw [5] (fun i wr => ∃ k : Nat, k ≤ a.size ∧ k ≤ b.size ∧ i = .int .i64 k ∧ Hid (a.data.toList.take k = b.data.toList.take k ∧ ∃ q, wr = w.drewN q)) (fun i _ => a.size - (intOf i).toNat)
  case atStart => exact ⟨0, by omega, by omega, rfl, by show _ ∧ _; exact ⟨by simp, 0, rfl⟩⟩
  case round =>
    obtain ⟨k, hka, hkb, rfl, HW⟩ := hrel
    by_cases h1 : k < a.size
    · by_cases h2 : k < b.size
      · have h1i : (k : Int) < a.size := by omega
        have h2i : (k : Int) < b.size := by omega
        by_cases hxy : a[k] = b[k]
        · have HXY := Lib.hid hxy
          have hq : ((a[k].toNat : Int) != (b[k].toNat : Int)) = false := by rw [hxy]; simp
          clear hxy
          go_wp2_with fail
          go_quiet (fail)
          go_wp2_with fail
          go_roundw
          case rel => exact ⟨k + 1, by omega, by omega, by go_num, by
            show _ ∧ _
            exact ⟨by rw [List.take_add_one, List.take_add_one, HW.out.1, ba_get a k h1, ba_get b k h2, HXY.out], drewN_more HW.out.2⟩⟩
          case measure => simp [intOf]; omega
        · have HL : Hid (ltS a b = decide (a[k].toNat < b[k].toNat)) := by show _ = _; rw [ltS_at a b k h1 h2 HW.out.1 hxy]; simp only [Int.ofNat_lt]
          have hq : ((a[k].toNat : Int) != (b[k].toNat : Int)) = true := by
            simp only [bne_iff_ne, ne_eq, Int.natCast_inj]
            exact fun e => hxy (UInt8.toNat_inj.1 e)
          clear hxy
          go_wp2_with fail
          go_quiet (fail)
          go_wp2_with fail
          go_quiet (fail)
          go_wp2_with fail
          go_ret
          exact ⟨by rw [HL.out]; rfl, drewN_more (drewN_more HW.out.2)⟩
      · have HL : Hid (ltS a b = decide (a.size < b.size)) := by show _ = _; rw [ltS_end a b k hka hkb HW.out.1 (by omega)]; simp only [Int.ofNat_lt]
        have h1i : (k : Int) < a.size := by omega
        have h2i : ¬ (k : Int) < b.size := by omega
        go_wp2_with fail
        go_ret
        exact ⟨by rw [HL.out]; rfl, HW.out.2⟩
    · have HL : Hid (ltS a b = decide (a.size < b.size)) := by show _ = _; rw [ltS_end a b k hka hkb HW.out.1 (by omega)]; simp only [Int.ofNat_lt]
      have h1i : ¬ (k : Int) < a.size := by omega
      go_wp2_with fail
      go_ret
      exact ⟨by rw [HL.out]; rfl, HW.out.2⟩
end Go.Proofs.Ytlhliolknaopjaa

/-
  Keys: the reference's Find. Conditions: the list lies in memory.
-/
namespace Go.Proofs.Ytlhliolknaopjaa
open Go Go.ChangeShapes Go.WideShapes Go.ChangeAt Go.RowKit Go.Joins Go.Deep
set_option linter.unusedVariables false
set_option linter.unusedSimpArgs false

end Go.Proofs.Ytlhliolknaopjaa

/-
  Keys: the reference's Zero and Check. Conditions: the string's length fits.
-/
namespace Go.Proofs.Ytlhliolknaopjaa
open Go Go.ChangeShapes Go.WideShapes Go.ChangeAt Go.RowKit Go.Joins Go.Deep
set_option linter.unusedVariables false
set_option linter.unusedSimpArgs false

theorem ba_snoc (s : ByteArray) (k : Nat) (h : k < s.size) : s.data.toList.take (k + 1) = s.data.toList.take k ++ [s[k]] := by
  rw [List.take_add_one, ba_get s k h]; rfl
set_option maxRecDepth 100000 in
set_option maxHeartbeats 1000000 in
theorem rzero_any (s : ByteArray) (w : World) (hs : lenok s.size) : Calls Try.prog 115 #[.string s] w fun r w' => r = .returned (.bool (zeroB s)) ∧ w' = w := by
  unfold lenok at hs
  go_enter Try.func115, Try.ntmps115
  go_wp2_with fail
  go_loop [3] (fun i => ∃ k : Nat, k ≤ s.size ∧ i = .int .i64 k ∧ Hid ((0 : UInt8) ∉ s.data.toList.take k)) (fun i => s.size - (intOf i).toNat)
  case atStart => exact ⟨0, Nat.zero_le _, rfl, by show _ ∉ _; simp⟩
  case round =>
    obtain ⟨k, hk, rfl, HW⟩ := hrel
    by_cases hlt : k < s.size
    · have hlti : (k : Int) < s.size := by omega
      by_cases h0 : s[k] = 0
      · have HZ : Hid (zeroB s = true) := by
          show _ = _
          exact decide_eq_true (List.mem_of_getElem? (by rw [ba_get s k hlt, h0]))
        have hq : ((s[k].toNat : Int) == 0) = true := by rw [h0]; rfl
        clear h0
        go_wp2_with fail
        go_ret
        exact ⟨by rw [HZ.out]; rfl, rfl⟩
      · have hq : ((s[k].toNat : Int) == 0) = false := by
          simp only [beq_eq_false_iff_ne, ne_eq]
          exact fun e => h0 (UInt8.toNat_inj.1 (by simpa using e))
        have HN := Lib.hid h0
        clear h0
        go_wp2_with fail
        go_round
        case rel => exact ⟨k + 1, by omega, by go_num, by
          show _ ∉ _
          rw [ba_snoc s k hlt]
          intro hm
          rcases List.mem_append.1 hm with hm | hm
          · exact HW.out hm
          · simp at hm; exact HN.out hm.symm⟩
        case measure => simp [intOf]; omega
    · have HZ : Hid (zeroB s = false) := by
        show _ = _
        have h := HW.out
        rw [List.take_of_length_le (by rw [ba_len]; omega)] at h
        exact decide_eq_false h
      go_wp2_with fail
      go_ret
      exact ⟨by rw [HZ.out]; rfl, rfl⟩
theorem keyE_eq (s : ByteArray) : keyE s = if zeroB s = true then 70 else 0 := by
  have h := Lib.contains_iff_indexByte s.data.toList 0
  unfold keyE zeroB
  by_cases hm : (0 : UInt8) ∈ s.data.toList
  · have h1 : s.data.toList.contains 0 = true := List.contains_iff_mem.2 hm
    rw [h1] at h
    rw [if_pos (of_decide_eq_true h.symm), if_pos (decide_eq_true hm)]
  · have h1 : s.data.toList.contains 0 = false := by rw [Bool.eq_false_iff]; exact fun e => hm (List.contains_iff_mem.1 e)
    rw [h1] at h
    rw [if_neg (of_decide_eq_false h.symm), if_neg (by simp [hm])]
set_option maxRecDepth 100000 in
theorem rcheck_any (s : ByteArray) (w : World) (hs : lenok s.size) : Calls Try.prog 106 #[.string s] w fun r w' => r = .returned (.int .i64 (keyE s)) ∧ w' = w := by
  have HC := Lib.hid (rzero_any s w hs)
  have HE := Lib.hid (keyE_eq s)
  cases hz : zeroB s with
  | true =>
    rw [hz] at HC HE
    have H2 : Hid (keyE s = 70) := HE.out
    clear hz
    go_enter Try.func106, Try.ntmps106
    go_wp2_with fail
    refine HC.out.mono ?_
    rintro r w' ⟨rfl, rfl⟩
    go_wp2_with fail
    go_ret
    exact ⟨by rw [H2.out]; rfl, rfl⟩
  | false =>
    rw [hz] at HC HE
    have H2 : Hid (keyE s = 0) := HE.out
    clear hz
    go_enter Try.func106, Try.ntmps106
    go_wp2_with fail
    refine HC.out.mono ?_
    rintro r w' ⟨rfl, rfl⟩
    go_wp2_with fail
    go_ret
    exact ⟨by rw [H2.out]; rfl, rfl⟩
end Go.Proofs.Ytlhliolknaopjaa

/-
  Denote, plain: what the program computes of bytes, references and trees.
-/
namespace Go.Proofs.Ytlhliolknaopjaa
open Go Go.ChangeShapes Go.WideShapes Go.ChangeAt Go.RowKit Go.Joins Go.Deep
set_option linter.unusedVariables false
set_option linter.unusedSimpArgs false

def Tr.fn : Tr → Int | .mk _ n _ _ _ _ => n
def Tr.fu : Tr → Int | .mk _ _ u _ _ _ => u
def Tr.fs : Tr → ByteArray | .mk _ _ _ s _ _ => s
def EMB : ByteArray := ⟨#[]⟩
/-- num: the number at an offset, whether it is one. -/
def numF (d : List UInt8) (at_ w : Int) : Int × Bool := (min (loadF d at_ w).1 9007199254740992, decide ((loadF d at_ w).2 = 0) && decide ((loadF d at_ w).1 ≤ 9007199254740992))
def bareF (t : Tr) (k n u : Int) (s : ByteArray) : Bool := decide (t.kind = k) && decide (t.fn = n) && decide (t.fu = u) && decide (t.fs = s) && decide (t.keys.length = 0) && decide (t.kids.length = 0)
def numberF (d : List UInt8) (at_ w sg un : Int) (t : Tr) : Bool :=
  if (loadF d at_ w).2 ≠ 0 then false else if t.kind = sg then bareF t sg (loadIntF d at_ w).1 0 EMB else decide (t.kind = un) && bareF t un 0 (loadF d at_ w).1 EMB
def hasF (d : List UInt8) (at_ : Int) (s : ByteArray) : Bool := decide (0 ≤ at_) && decide ((s.size : Int) ≤ d.length - at_) && decide ((d.drop at_.toNat).take s.size = s.data.toList)
def nullF (d : List UInt8) (pos par : Int) (t : Tr) : Bool := decide ((loadF d pos par).2 = 0) && bareF t 1 0 0 EMB
def intF (d : List UInt8) (pos par : Int) (t : Tr) : Bool := decide (t.kind = 3) && numberF d pos par 3 4 t
def uintF (d : List UInt8) (pos par : Int) (t : Tr) : Bool := decide (t.kind = 4) && numberF d pos par 3 4 t
def boolF (d : List UInt8) (pos par : Int) (t : Tr) : Bool := decide ((loadF d pos par).2 = 0) && bareF t 2 (if (loadF d pos par).1 = 0 then 0 else 1) 0 EMB
def ends (s : ByteArray) : ByteArray := s ++ ⟨#[0]⟩
def keyF (d : List UInt8) (at_ : Int) (t : Tr) : Bool := bareF t 5 0 0 t.fs && decide (keyE t.fs = 0) && hasF d at_ (ends t.fs)
def textF (d : List UInt8) (typ width at_ : Int) (t : Tr) : Bool :=
  bareF t (if typ = 5 then 6 else 7) 0 0 t.fs && (numF d (at_ - width) width).2 && decide (at_ % width = 0) && decide ((numF d (at_ - width) width).1 = t.fs.size) && hasF d at_ (if typ = 5 then ends t.fs else t.fs)
def apartF (d : List UInt8) (typ width at_ : Int) (t : Tr) : Bool := decide (t.kind = if typ = 6 then 8 else 9) && decide (at_ % width = 0) && numberF d at_ width 8 9 t
/-- The bytes lie in memory. -/
def DocAt (w : World) (v : Value) (d : List UInt8) : Prop := BytesAt w v d ∧ d.length ≤ 1048576 ∧ ∀ ad n c, v = .slice (some ad) n c → ad.block < w.heap.size ∧ ∃ bl off, ad = ⟨bl, off, none⟩
theorem DocAt.grew {w w' : World} {v : Value} {d : List UInt8} (h : DocAt w v d) (hg : Grew w w') : DocAt w' v d := ⟨h.1.grew hg, h.2.1, fun ad n c e => ⟨Nat.lt_of_lt_of_le (h.2.2 ad n c e).1 hg.size, (h.2.2 ad n c e).2⟩⟩
theorem DocAt.form {w : World} {v : Value} {d : List UInt8} (h : DocAt w v d) : ∃ a c, v = .slice a d.length c ∧ d.length ≤ c := by
  obtain ⟨⟨a, c, e, h1, _⟩, _⟩ := h; exact ⟨a, c, e, h1⟩
theorem loadF_pos (d : List UInt8) (at_ w : Int) : 0 ≤ (loadF d at_ w).1 ∧ (loadF d at_ w).1 ≤ 18446744073709551615 ∧ ((loadF d at_ w).2 ≠ 0 → (loadF d at_ w).1 = 0) := by
  by_cases h : (loadF d at_ w).2 = 0
  · obtain ⟨hx, h0, h1⟩ := loadF_ok h
    refine ⟨h0, ?_, fun h' => absurd h h'⟩
    rcases isW_cases hx with rfl | rfl | rfl | rfl <;> (simp at h1; omega)
  · have e : (loadF d at_ w).1 = 0 := by
      unfold loadF at h ⊢
      split
      · rename_i hx
        rw [if_pos hx] at h
        split
        · rfl
        · rename_i hr; rw [if_neg hr] at h; simp at h
      · rfl
    rw [e]; exact ⟨by omega, by omega, fun _ => rfl⟩
end Go.Proofs.Ytlhliolknaopjaa

/-
  Denote: the small functions. Conditions: the bytes, the tree lie in memory.
-/
namespace Go.Proofs.Ytlhliolknaopjaa
open Go Go.ChangeShapes Go.WideShapes Go.ChangeAt Go.RowKit Go.Joins Go.Deep
set_option linter.unusedVariables false
set_option linter.unusedSimpArgs false

set_option maxRecDepth 100000 in
set_option maxHeartbeats 4000000 in
theorem dnum_any (d : List UInt8) (dv : Value) (at_ x : Int) (w : World) (hD : DocAt w dv d) (ha : i64ok at_) : Calls Try.prog 49 #[dv, .int .i64 at_, .int .i64 x] w fun r w' => r = .returned (.tuple #[.int .i64 (numF d at_ x).1, .bool (numF d at_ x).2]) ∧ Grew w w' := by
  have HL := Lib.hid (loadD_any dv d hD.1 (by have := hD.2.1; omega) at_ x ha (fun ad n c e => (hD.2.2 ad n c e).1))
  have hp := loadF_pos d at_ x
  unfold numF
  generalize loadF d at_ x = q at *
  obtain ⟨u, e⟩ := q
  simp only at HL hp ⊢
  obtain ⟨a, c, rfl, _⟩ := hD.form
  clear hD
  obtain ⟨h0, h1, h2⟩ := hp
  by_cases he : e = 0
  · subst he
    clear h2
    by_cases hu : u ≤ 9007199254740992
    · have hm : min u 9007199254740992 = u := by omega
      have hw : IntKind.i64.wrap u = u := by rw [IntKind.wrap_i64]; omega
      rw [hm]
      have HU : Hid (decide (u ≤ 9007199254740992) = true) := decide_eq_true hu
      go_enter Try.func49, Try.ntmps49
      go_wp2_with fail
      refine HL.out.mono ?_
      rintro r w' ⟨rfl, hg⟩
      have HG := Lib.hid hg
      clear hg
      go_wp2
      go_ret2
      exact ⟨by rw [HU.out]; rfl, HG.out⟩
    · have hm : min u 9007199254740992 = 9007199254740992 := by omega
      rw [hm]
      have HU : Hid (decide (u ≤ 9007199254740992) = false) := decide_eq_false hu
      go_enter Try.func49, Try.ntmps49
      go_wp2_with fail
      refine HL.out.mono ?_
      rintro r w' ⟨rfl, hg⟩
      have HG := Lib.hid hg
      clear hg
      go_wp2
      go_ret2
      exact ⟨by rw [HU.out]; rfl, HG.out⟩
  · have e0 := h2 he
    subst e0
    have hb : (e == 0) = false := by simpa using he
    have HE : Hid (decide (e = 0) = false) := decide_eq_false he
    clear he h2 h0 h1
    go_enter Try.func49, Try.ntmps49
    go_wp2_with fail
    refine HL.out.mono ?_
    rintro r w' ⟨rfl, hg⟩
    have HG := Lib.hid hg
    clear hg
    go_wp2
    go_ret2
    exact ⟨by rw [HE.out]; rfl, HG.out⟩
set_option maxRecDepth 100000 in
set_option maxHeartbeats 4000000 in
theorem bare_any (t : Tr) (tv : Value) (k2 n2 u2 : Int) (s2 : ByteArray) (w : World) (hn : NodeAt w t tv) : Calls Try.prog 81 #[tv, .agg #[.int .i64 k2, .int .i64 n2, .int .u64 u2, .string s2, .slice none 0 0, .slice none 0 0]] w fun r w' => r = .returned (.bool (bareF t k2 n2 u2 s2)) ∧ Grew w w' := by
  obtain ⟨k, n, u, s, keys, l⟩ := t
  simp only [NodeAt] at hn
  obtain ⟨_, kv, lv, vs, rfl, hks, hrl, hkids⟩ := hn
  have hkl := hkids.length
  obtain ⟨a4, c4, rfl, _, hc4, _⟩ := hks
  obtain ⟨a5, c5, rfl, _, hc5, _⟩ := hrl
  rw [hkl]
  have hk1 : keys.length ≤ 9223372036854775807 := by unfold lenok at hc4; omega
  have hl1 : l.length ≤ 9223372036854775807 := by unfold lenok at hc5; omega
  clear hkids hkl hc4 hc5
  by_cases h0 : k = k2
  rotate_left
  · have HF : Hid (bareF (.mk k n u s keys l) k2 n2 u2 s2 =  false) := by show _ = _; simp [bareF, Tr.kind, Tr.fn, Tr.fu, Tr.fs, Tr.keys, Tr.kids, h0]
    rw [HF.out]
    have hB : (k == k2) = false := by simp [h0]
    clear h0
    go_enter Try.func81, Try.ntmps81
    go_wp2_with fail
    go_ret
    exact ⟨rfl, ((Grew.refl w).alloc _).alloc _⟩
  subst h0
  by_cases h1 : n = n2
  rotate_left
  · have HF : Hid (bareF (.mk k n u s keys l) k n2 u2 s2 =  false) := by show _ = _; simp [bareF, Tr.kind, Tr.fn, Tr.fu, Tr.fs, Tr.keys, Tr.kids, h1]
    rw [HF.out]
    have hB : (n == n2) = false := by simp [h1]
    clear h1
    go_enter Try.func81, Try.ntmps81
    go_wp2_with fail
    go_ret
    exact ⟨rfl, ((Grew.refl w).alloc _).alloc _⟩
  subst h1
  by_cases h2 : u = u2
  rotate_left
  · have HF : Hid (bareF (.mk k n u s keys l) k n u2 s2 =  false) := by show _ = _; simp [bareF, Tr.kind, Tr.fn, Tr.fu, Tr.fs, Tr.keys, Tr.kids, h2]
    rw [HF.out]
    have hB : (u == u2) = false := by simp [h2]
    clear h2
    go_enter Try.func81, Try.ntmps81
    go_wp2_with fail
    go_ret
    exact ⟨rfl, ((Grew.refl w).alloc _).alloc _⟩
  subst h2
  by_cases h3 : s = s2
  rotate_left
  · have HF : Hid (bareF (.mk k n u s keys l) k n u s2 =  false) := by show _ = _; simp [bareF, Tr.kind, Tr.fn, Tr.fu, Tr.fs, Tr.keys, Tr.kids, h3]
    rw [HF.out]
    have hB : (s.toList == s2.toList) = false := by rw [str_eq]; exact decide_eq_false h3
    clear h3
    go_enter Try.func81, Try.ntmps81
    go_wp2_with fail
    go_ret
    exact ⟨rfl, ((Grew.refl w).alloc _).alloc _⟩
  subst h3
  by_cases h4 : keys.length = 0
  rotate_left
  · have HF : Hid (bareF (.mk k n u s keys l) k n u s =  false) := by show _ = _; simp [bareF, Tr.kind, Tr.fn, Tr.fu, Tr.fs, Tr.keys, Tr.kids, h4]
    rw [HF.out]
    have hB : ¬ ((keys.length : Nat) : Int) = 0 := by omega
    have hB2 : (((keys.length : Nat) : Int) == 0) = false := by rw [beq_eq_false_iff_ne]; omega
    clear h4
    go_enter Try.func81, Try.ntmps81
    go_wp2_with fail
    go_ret
    exact ⟨rfl, ((Grew.refl w).alloc _).alloc _⟩
  by_cases h5 : l.length = 0
  rotate_left
  · have HF : Hid (bareF (.mk k n u s keys l) k n u s =  false) := by show _ = _; simp [bareF, Tr.kind, Tr.fn, Tr.fu, Tr.fs, Tr.keys, Tr.kids, h5]
    rw [HF.out]
    have hB : ¬ ((l.length : Nat) : Int) = 0 := by omega
    have hB2 : (((l.length : Nat) : Int) == 0) = false := by rw [beq_eq_false_iff_ne]; omega
    clear h5
    go_enter Try.func81, Try.ntmps81
    go_wp2_with fail
    go_ret
    exact ⟨rfl, ((Grew.refl w).alloc _).alloc _⟩
  have HF : Hid (bareF (.mk k n u s keys l) k n u s = true) := by show _ = _; simp [bareF, Tr.kind, Tr.fn, Tr.fu, Tr.fs, Tr.keys, Tr.kids, h4, h5]
  rw [HF.out, h4, h5]
  clear h4 h5 hk1 hl1
  go_enter Try.func81, Try.ntmps81
  go_wp2_with fail
  go_ret
  exact ⟨rfl, ((Grew.refl w).alloc _).alloc _⟩
theorem kind_of {w : World} {t : Tr} {k n u : Int} {s : ByteArray} {a4 a5 : Value} (h : NodeAt w t (.agg #[.int .i64 k, .int .i64 n, .int .u64 u, .string s, a4, a5])) : k = t.kind ∧ n = t.fn ∧ u = t.fu ∧ s = t.fs := by
  cases t
  simp only [NodeAt] at h
  obtain ⟨_, kv, lv, vs, e, _⟩ := h
  injection e with e
  simp only [Array.mk.injEq, List.cons.injEq, Value.int.injEq, Value.string.injEq] at e
  exact ⟨e.1.2, e.2.1.2, e.2.2.1.2, e.2.2.2.1⟩
set_option maxRecDepth 100000 in
set_option maxHeartbeats 4000000 in
theorem number_any (d : List UInt8) (dv : Value) (at_ x sg un : Int) (t : Tr) (tv : Value) (w : World) (hD : DocAt w dv d) (ha : i64ok at_) (hn : NodeAt w t tv) : Calls Try.prog 98 #[dv, .int .i64 at_, .int .i64 x, .int .i64 sg, .int .i64 un, tv] w fun r w' => r = .returned (.bool (numberF d at_ x sg un t)) ∧ Grew w w' := by
  have HD := Lib.hid hD
  have HT := Lib.hid hn
  obtain ⟨da, dc, rfl, _⟩ := hD.form
  obtain ⟨tk, tn, tu, ts, ta4, tn4, tc4, ta5, tn5, tc5, rfl⟩ := hn.node6
  obtain ⟨ek, en, eu, es⟩ := kind_of hn
  have HK : Hid (tk = t.kind ∧ tn = t.fn ∧ tu = t.fu ∧ ts = t.fs) := ⟨ek, en, eu, es⟩
  clear hD hn ek en eu es
  have HG := Lib.hid (Grew.refl w)
  have HP := Lib.hid (loadF_pos d at_ x)
  have HLD : Hid (∀ w', DocAt w' (.slice da d.length dc) d → Calls Try.prog 84 #[.slice da d.length dc, .int .i64 at_, .int .i64 x] w' fun r w2 => r = .returned (.tuple #[.int .u64 (loadF d at_ x).1, .int .i64 (loadF d at_ x).2]) ∧ Grew w' w2) := fun w' h => loadD_any _ d h.1 (by have := h.2.1; omega) at_ x ha (fun ad n c e => (h.2.2 ad n c e).1)
  have HLI : Hid (∀ w', DocAt w' (.slice da d.length dc) d → Calls Try.prog 112 #[.slice da d.length dc, .int .i64 at_, .int .i64 x] w' fun r w2 => r = .returned (.tuple #[.int .i64 (loadIntF d at_ x).1, .int .i64 (loadIntF d at_ x).2]) ∧ Grew w' w2) := fun w' h => loadIntD_any _ d h.1 (by have := h.2.1; omega) at_ x ha (fun ad n c e => (h.2.2 ad n c e).1)
  unfold numberF
  generalize loadF d at_ x = q at *
  generalize loadIntF d at_ x = qi at *
  obtain ⟨lu, le⟩ := q
  obtain ⟨li, lj⟩ := qi
  simp only at HP HLD HLI ⊢
  obtain ⟨res, hres⟩ : ∃ b, (if le ≠ 0 then false else if t.kind = sg then bareF t sg li 0 EMB else decide (t.kind = un) && bareF t un 0 lu EMB) = b := ⟨_, rfl⟩
  rw [hres]
  have HRES := Lib.hid hres
  clear hres
  go_enter Try.func98, Try.ntmps98
  go_upto_region 1 with fail
  obtain ⟨pt, hpt⟩ : ∃ N, w.heap.size = N := ⟨_, rfl⟩
  have hr1 := heap_alloc_new w (.cells #[.int .i64 tk, .int .i64 tn, .int .u64 tu, .string ts, .slice ta4 tn4 tc4, .slice ta5 tn5 tc5] 27)
  have hga := (Grew.refl w).alloc (.cells #[.int .i64 tk, .int .i64 tn, .int .u64 tu, .string ts, .slice ta4 tn4 tc4, .slice ta5 tn5 tc5] 27)
  have hz1 : (w.alloc (.cells #[.int .i64 tk, .int .i64 tn, .int .u64 tu, .string ts, .slice ta4 tn4 tc4, .slice ta5 tn5 tc5] 27)).heap.size = pt + 1 := by rw [World.size_alloc, hpt]
  generalize (w.alloc (.cells #[.int .i64 tk, .int .i64 tn, .int .u64 tu, .string ts, .slice ta4 tn4 tc4, .slice ta5 tn5 tc5] 27)) = x1 at *
  rw [hpt] at hr1
  try rw [hpt]
  have HRT := Lib.hid hr1
  clear hr1 hpt
  replace HD := Lib.hid (DocAt.grew HD.out hga)
  replace HT := Lib.hid (NodeAt.grew hga HT.out)
  replace HG := Lib.hid (HG.out.trans hga)
  clear hga
  clear hz1
  go_wp2_with fail
  refine (HLD.out _ HD.out).mono ?_
  rintro r u1 ⟨rfl, hgc⟩
  replace HD := Lib.hid (DocAt.grew HD.out hgc)
  replace HT := Lib.hid (NodeAt.grew hgc HT.out)
  replace HRT := Lib.hid (hgc.heap HRT.out)
  replace HG := Lib.hid (HG.out.trans hgc)
  clear hgc
  go_wp2_with fail
  refine (HLI.out _ HD.out).mono ?_
  rintro r u2 ⟨rfl, hgc⟩
  replace HD := Lib.hid (DocAt.grew HD.out hgc)
  replace HT := Lib.hid (NodeAt.grew hgc HT.out)
  replace HRT := Lib.hid (hgc.heap HRT.out)
  replace HG := Lib.hid (HG.out.trans hgc)
  clear hgc
  have c0 := row_cellT HRT.out 0 _ rfl
  have c1 := row_cellT HRT.out 1 _ rfl
  have c2 := row_cellT HRT.out 2 _ rfl
  have c3 := row_cellT HRT.out 3 _ rfl
  have c4 := row_cellT HRT.out 4 _ rfl
  have c5 := row_cellT HRT.out 5 _ rfl
  by_cases hle : le = 0
  rotate_left
  · have hb : (le != 0) = true := by simpa using hle
    have HV : Hid (res = false) := by show _ = _; rw [← HRES.out, if_pos hle]
    clear hle
    go_wp2_with fail
    go_ret
    exact ⟨by rw [HV.out]; rfl, HG.out⟩
  subst hle
  by_cases hs : tk = sg
  · have hb : (tk == sg) = true := by simpa using hs
    have HV : Hid (res = bareF t tk li 0 EMB) := by show _ = _; rw [← HRES.out, if_neg (by decide), ← HK.out.1, if_pos hs, hs]
    subst hs
    go_wp2_with fail
    refine (bare_any t _ tk li 0 ⟨#[]⟩ _ HT.out).mono ?_
    rintro r u3 ⟨rfl, hgc⟩
    replace HD := Lib.hid (DocAt.grew HD.out hgc)
    replace HT := Lib.hid (NodeAt.grew hgc HT.out)
    replace HRT := Lib.hid (hgc.heap HRT.out)
    replace HG := Lib.hid (HG.out.trans hgc)
    clear hgc
    go_wp2_with fail
    go_ret
    exact ⟨by rw [HV.out]; rfl, HG.out⟩
  have hb : (tk == sg) = false := by simpa using hs
  by_cases hu : tk = un
  · have hb2 : (tk == un) = true := by simpa using hu
    have HV : Hid (res = bareF t tk 0 lu EMB) := by show _ = _; rw [← HRES.out, if_neg (by decide), ← HK.out.1, if_neg hs, decide_eq_true hu, Bool.true_and, hu]
    clear hs
    subst hu
    go_wp2_with fail
    refine (bare_any t _ tk 0 lu ⟨#[]⟩ _ HT.out).mono ?_
    rintro r u3 ⟨rfl, hgc⟩
    replace HD := Lib.hid (DocAt.grew HD.out hgc)
    replace HT := Lib.hid (NodeAt.grew hgc HT.out)
    replace HRT := Lib.hid (hgc.heap HRT.out)
    replace HG := Lib.hid (HG.out.trans hgc)
    clear hgc
    go_wp2_with fail
    go_ret
    exact ⟨by rw [HV.out]; rfl, HG.out⟩
  have hb2 : (tk == un) = false := by simpa using hu
  have HV : Hid (res = false) := by show _ = _; rw [← HRES.out, if_neg (by decide), ← HK.out.1, if_neg hs, decide_eq_false hu, Bool.false_and]
  clear hu hs
  go_wp2_with fail
  go_ret
  exact ⟨by rw [HV.out]; rfl, HG.out⟩
end Go.Proofs.Ytlhliolknaopjaa

/-
  Denote: the methods that look at one datum. Conditions: the bytes, the tree lie in memory.
-/
namespace Go.Proofs.Ytlhliolknaopjaa
open Go Go.ChangeShapes Go.WideShapes Go.ChangeAt Go.RowKit Go.Joins Go.Deep
set_option linter.unusedVariables false
set_option linter.unusedSimpArgs false

set_option maxRecDepth 100000 in
theorem conv_any (x : List UInt8) (bl off c n : Nat) (w : World) (hn : x.length = n) (h : BytesAt w (.slice (some ⟨bl, off, none⟩) n c) x) : (convert 55 9 (.slice (some ⟨bl, off, none⟩) n c)).run Try.prog w = .ok (.string ⟨x.toArray⟩) w := by
  subst hn
  obtain ⟨a, c', e, _, _, h4⟩ := h
  cases e
  have := run_convert_bytes_arg (P := Try.prog) w 55 5 Try.underlying55 Try.underlying5 bl off x.length c (x.map fun b => (b.toNat : Int)) (by simp) (fun i hi => by
    obtain ⟨b, o, e, hc⟩ := h4 i x[i] (List.getElem?_eq_getElem hi)
    cases e
    rw [hc]
    simp [List.getD_eq_getElem?_getD, hi]) 9 Try.underlying9
  rw [this]
  congr 2
  unfold strOfNums
  simp [Function.comp_def]
theorem str_of (s : ByteArray) (x : List UInt8) : (x == s.toList) = decide (x = s.data.toList) := by
  rw [ByteArray.toList_eq]
  by_cases h : x = s.data.toList
  · rw [decide_eq_true h]; simp [h]
  · rw [decide_eq_false h]; simpa using h
set_option maxRecDepth 100000 in
set_option maxHeartbeats 4000000 in
theorem is_any (d : List UInt8) (dv : Value) (at_ : Int) (s : ByteArray) (w : World) (hD : DocAt w dv d) (ha : i64ok at_) (hs : s.size ≤ 1048576) : Calls Try.prog 100 #[dv, .int .i64 at_, .string s] w fun r w' => r = .returned (.bool (hasF d at_ s)) ∧ Grew w w' := by
  have HD := Lib.hid hD
  have hdl := hD.2.1
  obtain ⟨da, dc, rfl, hdc⟩ := hD.form
  by_cases h0 : 0 ≤ at_
  rotate_left
  · have HF : Hid (hasF d at_ s = false) := by show _ = _; unfold hasF; rw [decide_eq_false h0]; rfl
    rw [HF.out]
    have h1 : at_ < 0 := by omega
    clear h0 hD
    go_enter Try.func100, Try.ntmps100
    go_wp2_with fail
    go_ret
    exact ⟨rfl, Grew.refl _⟩
  have hw1 : i64ok ((d.length : Int) - at_) := by unfold i64ok at ha ⊢; omega
  by_cases h1 : (s.size : Int) ≤ d.length - at_
  rotate_left
  · have HF : Hid (hasF d at_ s = false) := by show _ = _; unfold hasF; rw [decide_eq_true h0, decide_eq_false h1]; rfl
    rw [HF.out]
    have hwr : IntKind.i64.wrap ((d.length : Int) - at_) = (d.length : Int) - at_ := by rw [IntKind.wrap_i64]; unfold i64ok at hw1; omega
    clear hD hw1
    go_enter Try.func100, Try.ntmps100
    go_wp2_with fail
    go_ret
    exact ⟨rfl, Grew.refl _⟩
  obtain ⟨k, rfl⟩ := Int.eq_ofNat_of_zero_le h0
  have hk : k + s.size ≤ d.length := by omega
  have HF : Hid (hasF d (k : Int) s = decide ((d.drop k).take s.size = s.data.toList)) := by show _ = _; unfold hasF; rw [decide_eq_true h0, decide_eq_true h1]; rfl
  rw [HF.out]
  have hb := hD.1
  clear hD hw1 ha
  cases da with
  | none =>
    obtain ⟨a, c', e, h3, h4, _⟩ := hb
    cases e
    have hc0 := h4 rfl
    subst hc0
    have hd0 : d = [] := List.length_eq_zero_iff.1 (by omega)
    subst hd0
    have hs0 : s.size = 0 := by simp at hk; omega
    have hk0 : k = 0 := by simp at hk; omega
    subst hk0
    have hse : s = ⟨#[]⟩ := by
      obtain ⟨⟨l⟩⟩ := s
      simp [ByteArray.size] at hs0
      rw [hs0]
    subst hse
    have hcv : (convert 55 9 (.slice none 0 0)).run Try.prog w = .ok (.string ⟨#[]⟩) w := by
      rw [run_convert_bytes_string w _ _ _ _ _ _ Try.underlying55 Try.underlying5 Try.underlying9]; rfl
    have hse : ((⟨#[]⟩ : ByteArray).toList == (⟨#[]⟩ : ByteArray).toList) = true := by decide +kernel
    clear h3 h4 HF hdl hdc HD h0 hs hs0 h1 hk
    show Calls Try.prog 100 #[.slice none 0 0, .int .i64 0, .string ⟨#[]⟩] w fun r w' => r = .returned (.bool true) ∧ Grew w w'
    go_enter Try.func100, Try.ntmps100
    go_wp2_with fail
    go_ret
    exact ⟨rfl, Grew.refl _⟩
  | some ad =>
    obtain ⟨bl, off, he⟩ : ∃ bl off, ad = ⟨bl, off, none⟩ := (HD.out.2.2 ad _ _ rfl).2
    subst he
    clear HF HD
    have hst := str_of s ((d.drop k).take s.size)
    have hw1 : IntKind.i64.wrap ((d.length : Int) - (k : Int)) = (d.length : Int) - (k : Int) := by rw [IntKind.wrap_i64]; omega
    have hw2 : IntKind.i64.wrap ((k : Int) + (s.size : Int)) = (k : Int) + (s.size : Int) := by rw [IntKind.wrap_i64]; omega
    have hkd : (k : Int) + (s.size : Int) ≤ dc := by omega
    by_cases hkc : k < dc
    · have hcv := conv_any ((d.drop k).take s.size) bl (off + k) (dc - k) s.size w (by simp; omega) (bytes_cut hb k s.size (dc - k) hk (by omega))
      generalize (d.drop k).take s.size = z at *
      generalize decide (z = s.data.toList) = bz at *
      clear hb
      go_enter Try.func100, Try.ntmps100
      go_wp2_with fail
      go_ret
      exact ⟨by rw [← hst]; rfl, Grew.refl _⟩
    · have hs0 : s.size = 0 := by omega
      have hz : (d.drop k).take s.size = [] := by rw [hs0]; simp
      have hcv : (convert 55 9 (.slice (some ⟨bl, off, none⟩) 0 0)).run Try.prog w = .ok (.string ⟨((d.drop k).take s.size).toArray⟩) w := by
        rw [hz]
        exact conv_any [] bl off 0 0 w rfl ⟨some ⟨bl, off, none⟩, 0, by simp, by simp, fun h => (by cases h), fun i b h => by simp at h⟩
      generalize (d.drop k).take s.size = z at *
      generalize decide (z = s.data.toList) = bz at *
      clear hb hz
      have hkd2 : k = dc := by omega
      subst hkd2
      clear hs0 hkc
      go_enter Try.func100, Try.ntmps100
      go_wp2_with fail
      go_ret
      exact ⟨by rw [← hst]; rfl, Grew.refl _⟩
set_option maxRecDepth 100000 in
set_option maxHeartbeats 4000000 in
theorem inside_any (d : List UInt8) (dv : Value) (pos par typ wid : Int) (w : World) (hD : DocAt w dv d) (hp : i64ok pos) : Calls Try.prog 97 #[dv, .agg #[.int .i64 pos, .int .i64 par, .int .i64 typ, .int .i64 wid]] w fun r w' => r = .returned (.bool (decide ((loadF d pos par).2 = 0))) ∧ Grew w w' := by
  have HD := Lib.hid hD
  obtain ⟨da, dc, rfl, _⟩ := hD.form
  clear hD
  have HG := Lib.hid (Grew.refl w)
  have HLD : Hid (∀ w', DocAt w' (.slice da d.length dc) d → Calls Try.prog 84 #[.slice da d.length dc, .int .i64 pos, .int .i64 par] w' fun r w2 => r = .returned (.tuple #[.int .u64 (loadF d pos par).1, .int .i64 (loadF d pos par).2]) ∧ Grew w' w2) := fun w' h => loadD_any _ d h.1 (by have := h.2.1; omega) pos par hp (fun ad n c e => (h.2.2 ad n c e).1)
  generalize loadF d pos par = q at *
  obtain ⟨lu, le⟩ := q
  simp only at HLD ⊢
  obtain ⟨res, hres⟩ : ∃ b, decide (le = 0) = b := ⟨_, rfl⟩
  rw [hres]
  have HRES := Lib.hid hres
  clear hres
  go_enter Try.func97, Try.ntmps97
  go_upto_region 1 with fail
  obtain ⟨pr, hpr⟩ : ∃ N, w.heap.size = N := ⟨_, rfl⟩
  have hr1 := heap_alloc_new w (.cells #[.int .i64 pos, .int .i64 par, .int .i64 typ, .int .i64 wid] 35)
  have hga := (Grew.refl w).alloc (.cells #[.int .i64 pos, .int .i64 par, .int .i64 typ, .int .i64 wid] 35)
  have hz1 : (w.alloc (.cells #[.int .i64 pos, .int .i64 par, .int .i64 typ, .int .i64 wid] 35)).heap.size = pr + 1 := by rw [World.size_alloc, hpr]
  generalize (w.alloc (.cells #[.int .i64 pos, .int .i64 par, .int .i64 typ, .int .i64 wid] 35)) = x1 at *
  rw [hpr] at hr1
  try rw [hpr]
  have HRR := Lib.hid hr1
  clear hr1 hpr
  replace HD := Lib.hid (DocAt.grew HD.out hga)
  replace HG := Lib.hid (HG.out.trans hga)
  clear hga
  clear hz1
  have c0 := row_cellT HRR.out 0 _ rfl
  have c1 := row_cellT HRR.out 1 _ rfl
  have c2 := row_cellT HRR.out 2 _ rfl
  have c3 := row_cellT HRR.out 3 _ rfl
  go_wp2_with fail
  refine (HLD.out _ HD.out).mono ?_
  rintro r u1 ⟨rfl, hgc⟩
  replace HD := Lib.hid (DocAt.grew HD.out hgc)
  replace HRR := Lib.hid (hgc.heap HRR.out)
  replace HG := Lib.hid (HG.out.trans hgc)
  clear hgc
  by_cases hle : le = 0
  · have hb : (le == 0) = true := by simpa using hle
    have HV : Hid (res = true) := by show _ = _; rw [← HRES.out, decide_eq_true hle]
    clear hle
    go_wp2_with fail
    go_ret
    exact ⟨by rw [HV.out]; rfl, HG.out⟩
  · have hb : (le == 0) = false := by simpa using hle
    have HV : Hid (res = false) := by show _ = _; rw [← HRES.out, decide_eq_false hle]
    clear hle
    go_wp2_with fail
    go_ret
    exact ⟨by rw [HV.out]; rfl, HG.out⟩
set_option maxRecDepth 100000 in
set_option maxHeartbeats 4000000 in
theorem null_any (d : List UInt8) (dv : Value) (pos par typ wid at_ : Int) (t : Tr) (tv : Value) (w : World) (hD : DocAt w dv d) (hn : NodeAt w t tv) (hp : i64ok pos) : Calls Try.prog 73 #[dv, .agg #[.int .i64 pos, .int .i64 par, .int .i64 typ, .int .i64 wid], .int .i64 at_, tv] w fun r w' => r = .returned (.bool (nullF d pos par t)) ∧ Grew w w' := by
  have HD := Lib.hid hD
  have HT := Lib.hid hn
  obtain ⟨da, dc, rfl, _⟩ := hD.form
  obtain ⟨tk, tn, tu, ts, ta4, tn4, tc4, ta5, tn5, tc5, rfl⟩ := hn.node6
  obtain ⟨ek, en, eu, es⟩ := kind_of hn
  have HK : Hid (tk = t.kind ∧ tn = t.fn ∧ tu = t.fu ∧ ts = t.fs) := ⟨ek, en, eu, es⟩
  clear hD hn ek en eu es
  have HG := Lib.hid (Grew.refl w)
  obtain ⟨res, hres⟩ : ∃ b, nullF d pos par t = b := ⟨_, rfl⟩
  rw [hres]
  have HRES := Lib.hid hres
  clear hres
  go_enter Try.func73, Try.ntmps73
  go_upto_region 1 with fail
  obtain ⟨pr, hpr⟩ : ∃ N, w.heap.size = N := ⟨_, rfl⟩
  have hr1 := heap_alloc_new w (.cells #[.int .i64 pos, .int .i64 par, .int .i64 typ, .int .i64 wid] 35)
  have hga := (Grew.refl w).alloc (.cells #[.int .i64 pos, .int .i64 par, .int .i64 typ, .int .i64 wid] 35)
  have hz1 : (w.alloc (.cells #[.int .i64 pos, .int .i64 par, .int .i64 typ, .int .i64 wid] 35)).heap.size = pr + 1 := by rw [World.size_alloc, hpr]
  generalize (w.alloc (.cells #[.int .i64 pos, .int .i64 par, .int .i64 typ, .int .i64 wid] 35)) = x1 at *
  rw [hpr] at hr1
  try rw [hpr]
  have HRR := Lib.hid hr1
  clear hr1 hpr
  replace HD := Lib.hid (DocAt.grew HD.out hga)
  replace HT := Lib.hid (NodeAt.grew hga HT.out)
  replace HG := Lib.hid (HG.out.trans hga)
  clear hga
  have hr2 := heap_alloc_new x1 (.cells #[.int .i64 tk, .int .i64 tn, .int .u64 tu, .string ts, .slice ta4 tn4 tc4, .slice ta5 tn5 tc5] 27)
  have hga := (Grew.refl x1).alloc (.cells #[.int .i64 tk, .int .i64 tn, .int .u64 tu, .string ts, .slice ta4 tn4 tc4, .slice ta5 tn5 tc5] 27)
  generalize (x1.alloc (.cells #[.int .i64 tk, .int .i64 tn, .int .u64 tu, .string ts, .slice ta4 tn4 tc4, .slice ta5 tn5 tc5] 27)) = x2 at *
  rw [hz1] at hr2
  try rw [hz1]
  have HRT := Lib.hid hr2
  clear hr2 hz1
  replace HD := Lib.hid (DocAt.grew HD.out hga)
  replace HT := Lib.hid (NodeAt.grew hga HT.out)
  replace HRR := Lib.hid (hga.heap HRR.out)
  replace HG := Lib.hid (HG.out.trans hga)
  clear hga
  have c0 := row_cellT HRR.out 0 _ rfl
  have c1 := row_cellT HRR.out 1 _ rfl
  have c2 := row_cellT HRR.out 2 _ rfl
  have c3 := row_cellT HRR.out 3 _ rfl
  have e0 := row_cellT HRT.out 0 _ rfl
  have e1 := row_cellT HRT.out 1 _ rfl
  have e2 := row_cellT HRT.out 2 _ rfl
  have e3 := row_cellT HRT.out 3 _ rfl
  have e4 := row_cellT HRT.out 4 _ rfl
  have e5 := row_cellT HRT.out 5 _ rfl
  go_wp2_with fail
  have hh := inside_any d _ pos par typ wid _ HD.out hp
  obtain ⟨ins, hins⟩ : ∃ b, decide ((loadF d pos par).2 = 0) = b := ⟨_, rfl⟩
  rw [hins] at hh
  have HIN := Lib.hid hins
  clear hins
  refine hh.mono ?_
  clear hh
  rintro r u1 ⟨rfl, hgc⟩
  clear c0 c1 c2 c3
  clear e0 e1 e2 e3 e4 e5
  replace HD := Lib.hid (DocAt.grew HD.out hgc)
  replace HT := Lib.hid (NodeAt.grew hgc HT.out)
  replace HRR := Lib.hid (hgc.heap HRR.out)
  replace HRT := Lib.hid (hgc.heap HRT.out)
  replace HG := Lib.hid (HG.out.trans hgc)
  clear hgc
  have e0 := row_cellT HRT.out 0 _ rfl
  have e1 := row_cellT HRT.out 1 _ rfl
  have e2 := row_cellT HRT.out 2 _ rfl
  have e3 := row_cellT HRT.out 3 _ rfl
  have e4 := row_cellT HRT.out 4 _ rfl
  have e5 := row_cellT HRT.out 5 _ rfl
  cases ins
  · have HV : Hid (res = false) := by show _ = _; rw [← HRES.out]; unfold nullF; rw [HIN.out]; rfl
    go_wp2_with fail
    go_ret
    exact ⟨by rw [HV.out]; rfl, HG.out⟩
  have HV : Hid (res = bareF t 1 0 0 EMB) := by show _ = _; rw [← HRES.out]; unfold nullF; rw [HIN.out, Bool.true_and]
  go_wp2_with fail
  refine (bare_any t _ 1 0 0 ⟨#[]⟩ _ HT.out).mono ?_
  rintro r u2 ⟨rfl, hgc⟩
  replace HD := Lib.hid (DocAt.grew HD.out hgc)
  replace HT := Lib.hid (NodeAt.grew hgc HT.out)
  replace HRR := Lib.hid (hgc.heap HRR.out)
  replace HRT := Lib.hid (hgc.heap HRT.out)
  replace HG := Lib.hid (HG.out.trans hgc)
  clear hgc
  clear e0 e1 e2 e3 e4 e5
  go_wp2_with fail
  go_ret
  exact ⟨by rw [HV.out]; rfl, HG.out⟩
set_option maxRecDepth 100000 in
set_option maxHeartbeats 4000000 in
theorem int_any (d : List UInt8) (dv : Value) (pos par typ wid at_ : Int) (t : Tr) (tv : Value) (w : World) (hD : DocAt w dv d) (hn : NodeAt w t tv) (hp : i64ok pos) : Calls Try.prog 74 #[dv, .agg #[.int .i64 pos, .int .i64 par, .int .i64 typ, .int .i64 wid], .int .i64 at_, tv] w fun r w' => r = .returned (.bool (intF d pos par t)) ∧ Grew w w' := by
  have HD := Lib.hid hD
  have HT := Lib.hid hn
  obtain ⟨da, dc, rfl, _⟩ := hD.form
  obtain ⟨tk, tn, tu, ts, ta4, tn4, tc4, ta5, tn5, tc5, rfl⟩ := hn.node6
  obtain ⟨ek, en, eu, es⟩ := kind_of hn
  have HK : Hid (tk = t.kind ∧ tn = t.fn ∧ tu = t.fu ∧ ts = t.fs) := ⟨ek, en, eu, es⟩
  clear hD hn ek en eu es
  have HG := Lib.hid (Grew.refl w)
  obtain ⟨res, hres⟩ : ∃ b, intF d pos par t = b := ⟨_, rfl⟩
  rw [hres]
  have HRES := Lib.hid hres
  clear hres
  go_enter Try.func74, Try.ntmps74
  go_upto_region 1 with fail
  obtain ⟨pr, hpr⟩ : ∃ N, w.heap.size = N := ⟨_, rfl⟩
  have hr1 := heap_alloc_new w (.cells #[.int .i64 pos, .int .i64 par, .int .i64 typ, .int .i64 wid] 35)
  have hga := (Grew.refl w).alloc (.cells #[.int .i64 pos, .int .i64 par, .int .i64 typ, .int .i64 wid] 35)
  have hz1 : (w.alloc (.cells #[.int .i64 pos, .int .i64 par, .int .i64 typ, .int .i64 wid] 35)).heap.size = pr + 1 := by rw [World.size_alloc, hpr]
  generalize (w.alloc (.cells #[.int .i64 pos, .int .i64 par, .int .i64 typ, .int .i64 wid] 35)) = x1 at *
  rw [hpr] at hr1
  try rw [hpr]
  have HRR := Lib.hid hr1
  clear hr1 hpr
  replace HD := Lib.hid (DocAt.grew HD.out hga)
  replace HT := Lib.hid (NodeAt.grew hga HT.out)
  replace HG := Lib.hid (HG.out.trans hga)
  clear hga
  have hr2 := heap_alloc_new x1 (.cells #[.int .i64 tk, .int .i64 tn, .int .u64 tu, .string ts, .slice ta4 tn4 tc4, .slice ta5 tn5 tc5] 27)
  have hga := (Grew.refl x1).alloc (.cells #[.int .i64 tk, .int .i64 tn, .int .u64 tu, .string ts, .slice ta4 tn4 tc4, .slice ta5 tn5 tc5] 27)
  generalize (x1.alloc (.cells #[.int .i64 tk, .int .i64 tn, .int .u64 tu, .string ts, .slice ta4 tn4 tc4, .slice ta5 tn5 tc5] 27)) = x2 at *
  rw [hz1] at hr2
  try rw [hz1]
  have HRT := Lib.hid hr2
  clear hr2 hz1
  replace HD := Lib.hid (DocAt.grew HD.out hga)
  replace HT := Lib.hid (NodeAt.grew hga HT.out)
  replace HRR := Lib.hid (hga.heap HRR.out)
  replace HG := Lib.hid (HG.out.trans hga)
  clear hga
  have c0 := row_cellT HRR.out 0 _ rfl
  have c1 := row_cellT HRR.out 1 _ rfl
  have c2 := row_cellT HRR.out 2 _ rfl
  have c3 := row_cellT HRR.out 3 _ rfl
  have e0 := row_cellT HRT.out 0 _ rfl
  have e1 := row_cellT HRT.out 1 _ rfl
  have e2 := row_cellT HRT.out 2 _ rfl
  have e3 := row_cellT HRT.out 3 _ rfl
  have e4 := row_cellT HRT.out 4 _ rfl
  have e5 := row_cellT HRT.out 5 _ rfl
  by_cases hk : tk = 3
  rotate_left
  · have hb : (tk == 3) = false := by simpa using hk
    have HV : Hid (res = false) := by show _ = _; rw [← HRES.out]; unfold intF; rw [← HK.out.1, decide_eq_false hk]; rfl
    clear hk
    go_wp2_with fail
    go_ret
    exact ⟨by rw [HV.out]; rfl, HG.out⟩
  have HV : Hid (res = numberF d pos par 3 4 t) := by show _ = _; rw [← HRES.out]; unfold intF; rw [← HK.out.1, decide_eq_true hk, Bool.true_and]
  subst hk
  go_wp2_with fail
  refine (number_any d _ pos par 3 4 t _ _ HD.out hp HT.out).mono ?_
  rintro r u2 ⟨rfl, hgc⟩
  replace HD := Lib.hid (DocAt.grew HD.out hgc)
  replace HT := Lib.hid (NodeAt.grew hgc HT.out)
  replace HRR := Lib.hid (hgc.heap HRR.out)
  replace HRT := Lib.hid (hgc.heap HRT.out)
  replace HG := Lib.hid (HG.out.trans hgc)
  clear hgc
  clear c0 c1 c2 c3
  clear e0 e1 e2 e3 e4 e5
  go_wp2_with fail
  go_ret
  exact ⟨by rw [HV.out]; rfl, HG.out⟩
set_option maxRecDepth 100000 in
set_option maxHeartbeats 4000000 in
theorem uint_any (d : List UInt8) (dv : Value) (pos par typ wid at_ : Int) (t : Tr) (tv : Value) (w : World) (hD : DocAt w dv d) (hn : NodeAt w t tv) (hp : i64ok pos) : Calls Try.prog 75 #[dv, .agg #[.int .i64 pos, .int .i64 par, .int .i64 typ, .int .i64 wid], .int .i64 at_, tv] w fun r w' => r = .returned (.bool (uintF d pos par t)) ∧ Grew w w' := by
  have HD := Lib.hid hD
  have HT := Lib.hid hn
  obtain ⟨da, dc, rfl, _⟩ := hD.form
  obtain ⟨tk, tn, tu, ts, ta4, tn4, tc4, ta5, tn5, tc5, rfl⟩ := hn.node6
  obtain ⟨ek, en, eu, es⟩ := kind_of hn
  have HK : Hid (tk = t.kind ∧ tn = t.fn ∧ tu = t.fu ∧ ts = t.fs) := ⟨ek, en, eu, es⟩
  clear hD hn ek en eu es
  have HG := Lib.hid (Grew.refl w)
  obtain ⟨res, hres⟩ : ∃ b, uintF d pos par t = b := ⟨_, rfl⟩
  rw [hres]
  have HRES := Lib.hid hres
  clear hres
  go_enter Try.func75, Try.ntmps75
  go_upto_region 1 with fail
  obtain ⟨pr, hpr⟩ : ∃ N, w.heap.size = N := ⟨_, rfl⟩
  have hr1 := heap_alloc_new w (.cells #[.int .i64 pos, .int .i64 par, .int .i64 typ, .int .i64 wid] 35)
  have hga := (Grew.refl w).alloc (.cells #[.int .i64 pos, .int .i64 par, .int .i64 typ, .int .i64 wid] 35)
  have hz1 : (w.alloc (.cells #[.int .i64 pos, .int .i64 par, .int .i64 typ, .int .i64 wid] 35)).heap.size = pr + 1 := by rw [World.size_alloc, hpr]
  generalize (w.alloc (.cells #[.int .i64 pos, .int .i64 par, .int .i64 typ, .int .i64 wid] 35)) = x1 at *
  rw [hpr] at hr1
  try rw [hpr]
  have HRR := Lib.hid hr1
  clear hr1 hpr
  replace HD := Lib.hid (DocAt.grew HD.out hga)
  replace HT := Lib.hid (NodeAt.grew hga HT.out)
  replace HG := Lib.hid (HG.out.trans hga)
  clear hga
  have hr2 := heap_alloc_new x1 (.cells #[.int .i64 tk, .int .i64 tn, .int .u64 tu, .string ts, .slice ta4 tn4 tc4, .slice ta5 tn5 tc5] 27)
  have hga := (Grew.refl x1).alloc (.cells #[.int .i64 tk, .int .i64 tn, .int .u64 tu, .string ts, .slice ta4 tn4 tc4, .slice ta5 tn5 tc5] 27)
  generalize (x1.alloc (.cells #[.int .i64 tk, .int .i64 tn, .int .u64 tu, .string ts, .slice ta4 tn4 tc4, .slice ta5 tn5 tc5] 27)) = x2 at *
  rw [hz1] at hr2
  try rw [hz1]
  have HRT := Lib.hid hr2
  clear hr2 hz1
  replace HD := Lib.hid (DocAt.grew HD.out hga)
  replace HT := Lib.hid (NodeAt.grew hga HT.out)
  replace HRR := Lib.hid (hga.heap HRR.out)
  replace HG := Lib.hid (HG.out.trans hga)
  clear hga
  have c0 := row_cellT HRR.out 0 _ rfl
  have c1 := row_cellT HRR.out 1 _ rfl
  have c2 := row_cellT HRR.out 2 _ rfl
  have c3 := row_cellT HRR.out 3 _ rfl
  have e0 := row_cellT HRT.out 0 _ rfl
  have e1 := row_cellT HRT.out 1 _ rfl
  have e2 := row_cellT HRT.out 2 _ rfl
  have e3 := row_cellT HRT.out 3 _ rfl
  have e4 := row_cellT HRT.out 4 _ rfl
  have e5 := row_cellT HRT.out 5 _ rfl
  by_cases hk : tk = 4
  rotate_left
  · have hb : (tk == 4) = false := by simpa using hk
    have HV : Hid (res = false) := by show _ = _; rw [← HRES.out]; unfold uintF; rw [← HK.out.1, decide_eq_false hk]; rfl
    clear hk
    go_wp2_with fail
    go_ret
    exact ⟨by rw [HV.out]; rfl, HG.out⟩
  have HV : Hid (res = numberF d pos par 3 4 t) := by show _ = _; rw [← HRES.out]; unfold uintF; rw [← HK.out.1, decide_eq_true hk, Bool.true_and]
  subst hk
  go_wp2_with fail
  refine (number_any d _ pos par 3 4 t _ _ HD.out hp HT.out).mono ?_
  rintro r u2 ⟨rfl, hgc⟩
  replace HD := Lib.hid (DocAt.grew HD.out hgc)
  replace HT := Lib.hid (NodeAt.grew hgc HT.out)
  replace HRR := Lib.hid (hgc.heap HRR.out)
  replace HRT := Lib.hid (hgc.heap HRT.out)
  replace HG := Lib.hid (HG.out.trans hgc)
  clear hgc
  clear c0 c1 c2 c3
  clear e0 e1 e2 e3 e4 e5
  go_wp2_with fail
  go_ret
  exact ⟨by rw [HV.out]; rfl, HG.out⟩
end Go.Proofs.Ytlhliolknaopjaa
