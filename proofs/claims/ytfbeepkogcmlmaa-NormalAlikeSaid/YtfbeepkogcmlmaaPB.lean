/-
  Texts of the proof, part 2 of 8.
-/
import Derived.Test.YtfbeepkogcmlmaaPA
import Derived.Lib.SliceRun
import Derived.Shelf.Small.Bits
import Derived.Shelf.Small.Strs
import Derived.Shelf.Strconv.Itoa0
import Derived.Shelf.Strings.Search1
import Derived.Ground.SlsfProg
import Derived.Shelf.SlSortCmp.Insertion
import Derived.Shelf.SlSortCmp.SiftDown1
import Derived.Shelf.SlSortCmp.HeapSort1
import Derived.Shelf.SlSortCmp.Insertion1
import Derived.Shelf.SlSortCmp.Median1
import Derived.Shelf.SlSortCmp.Pivot1
import Derived.Shelf.SlSortCmp.ReverseRange1
import Derived.Shelf.SlSortCmp.PartialInsertion1
import Derived.Shelf.SlSortCmp.PartitionEqual1
import Derived.Shelf.SlSortCmp.Partition1
import Derived.Shelf.SlSortCmp.Pdq1
import Derived.Shelf.SlSortCmp.Whole1
import Derived.Shelf.SlSortCmp.NoneTotal
import Derived.Test.YtfbeepkogcmlmaaProg
import Derived.Maps.OwnOps
import Derived.Maps.Views
import Derived.Lib.IndexAny

/-
  Trees: the laws' shortened copy (Cut). Conditions: the node lies in memory.
-/
namespace Go.Proofs.Ytfbeepkogcmlmaa
open Go Go.ChangeShapes Go.WideShapes Go.ChangeAt Go.RowKit Go.Joins Go.Deep
set_option linter.unusedVariables false
set_option linter.unusedSimpArgs false

/-- The room's block. -/
def roomR (left long : Nat) : Obj := .cells #[.int .i64 left, .int .i64 long] 59 (0, 0)
theorem roomR_set {w : World} {rb left long : Nat} (h : w.heap[rb]? = some (roomR left long)) (p : Nat) : (w.setCell ⟨rb, 0, none⟩ (.int .i64 p)).heap[rb]? = some (roomR p long) := by
  have := heap_setCell_same w rb 0 _ _ (.int .i64 p) h
  simpa [roomR] using this
theorem cutTrs_end (long left : Nat) (l : List Tr) (k : Nat) (h : k = l.length ∨ (cutTrs long left (l.take k)).2 = 0) : cutTrs long left (l.take k) = cutTrs long left l := by
  rcases h with rfl | h
  · rw [List.take_length]
  · have := cutTrs_stop long (l.take k) (l.drop k) left h
    rw [List.take_append_drop] at this
    exact this.symm
theorem cutTrs_next (long left : Nat) (l : List Tr) (k p : Nat) (x : Tr) (hx : l[k]? = some x) (h : (cutTrs long left (l.take k)).2 = p + 1) :
    cutTrs long left (l.take (k + 1)) = ((cutTrs long left (l.take k)).1 ++ [(cutTr long p x).1], (cutTr long p x).2) := by
  rw [List.take_add_one, hx]
  show cutTrs long left (l.take k ++ [x]) = _
  rw [cutTrs_snoc, if_neg (by omega), h]
  rfl
theorem textsS_lenok {l : List ByteArray} (h : ∀ s ∈ l, lenok s.size) (many long : Nat) : ∀ s ∈ textsS l many long, lenok s.size := by
  intro s hs
  obtain ⟨y, hy, rfl⟩ := List.mem_map.1 hs
  have := h y (List.mem_of_mem_take hy)
  unfold lenok at *
  rw [shortS_size]
  omega
theorem shortS_lenok {s : ByteArray} (h : lenok s.size) (long : Nat) : lenok (shortS s long).size := by unfold lenok at *; rw [shortS_size]; omega
set_option maxRecDepth 100000 in
set_option maxHeartbeats 4000000 in
theorem roomcut_any (long : Nat) (hlong : long ≤ 1000) (W : World) (rb : Nat) (hWrb : W.heap.size ≤ rb) : ∀ (m : Nat) (t : Tr), t.size ≤ m → ∀ (v : Value) (w : World) (left : Nat), left ≤ 4096 → NodeAt W t v → Grew W w → w.heap[rb]? = some (roomR left long) →
    Calls Try.prog 43 #[bptr rb, v] w fun r w' => ∃ v', r = .returned v' ∧ OwnT w' w.heap.size (cutTr long left t).1 v' (Fresh w w') ∧ Moved (fun g => g = rb) w w' ∧ w'.heap[rb]? = some (roomR (cutTr long left t).2 long) := by
  intro m
  induction m with
  | zero => intro t ht; have := t.size_pos; omega
  | succ m ih =>
  intro t ht v w left hleft hn hW hrb
  obtain ⟨k, n, u, s, keys, l⟩ := t
  simp only [NodeAt] at hn
  obtain ⟨hb, kv, lv, vs, rfl, hks, hrows, hkids⟩ := hn
  have hkl : vs.length = l.length := hkids.length
  have HKS := Lib.hid hks
  have HK := Lib.hid hkids
  have HB := Lib.hid hb
  obtain ⟨a4, c4, rfl, hx1, hx2, hx3, hx4⟩ := hks
  clear hx1 hx2 hx3 hx4
  have HROWS := Lib.hid hrows
  obtain ⟨a5, c5, rfl, hll, hc5, hx3, hx4⟩ := hrows
  rw [hkl] at HROWS hll ⊢
  have hlen : l.length ≤ 9223372036854775807 := by unfold lenok at hc5; omega
  clear hx3 hx4 hll
  have hkz : Hid (∀ x ∈ keys, lenok x.size) := fun x hx => by
    obtain ⟨_, _, _, _, _, _, h⟩ := HKS.out
    obtain ⟨i, hi, rfl⟩ := List.mem_iff_getElem.1 hx
    exact (h i _ (List.getElem?_eq_getElem hi)).1
  have hsz : ∀ x ∈ l, x.size ≤ m := fun x hx => by have := size_mem hx; simp only [Tr.size] at ht; omega
  have HSZ := Lib.hid hsz
  have HW0 := Lib.hid hW
  clear hkids hb hsz ht hkl hc5 hW
  go_enter Try.func43, Try.ntmps43
  go_wp2_with fail
  have hb1 := heap_alloc_new w (.cells #[.int .i64 k, .int .i64 n, .int .u64 u, .string s, .slice a4 keys.length c4, .slice a5 l.length c5] 26)
  have hg1 := (Grew.refl w).alloc (.cells #[.int .i64 k, .int .i64 n, .int .u64 u, .string s, .slice a4 keys.length c4, .slice a5 l.length c5] 26)
  have hs1 : (w.alloc (.cells #[.int .i64 k, .int .i64 n, .int .u64 u, .string s, .slice a4 keys.length c4, .slice a5 l.length c5] 26)).heap.size = w.heap.size + 1 := World.size_alloc _ _
  generalize (w.alloc (.cells #[.int .i64 k, .int .i64 n, .int .u64 u, .string s, .slice a4 keys.length c4, .slice a5 l.length c5] 26)) = w1 at *
  have hb2 := heap_alloc_new w1 (.cells #[.int .i64 0, .int .i64 0, .int .u64 0, .string ⟨#[]⟩, .slice none 0 0, .slice none 0 0] 26)
  have hg2 := (Grew.refl w1).alloc (.cells #[.int .i64 0, .int .i64 0, .int .u64 0, .string ⟨#[]⟩, .slice none 0 0, .slice none 0 0] 26)
  have hs2 : (w1.alloc (.cells #[.int .i64 0, .int .i64 0, .int .u64 0, .string ⟨#[]⟩, .slice none 0 0, .slice none 0 0] 26)).heap.size = w1.heap.size + 1 := World.size_alloc _ _
  rw [hs1] at hb2 hs2
  generalize (w1.alloc (.cells #[.int .i64 0, .int .i64 0, .int .u64 0, .string ⟨#[]⟩, .slice none 0 0, .slice none 0 0] 26)) = w2 at *
  replace hb1 := hg2.heap hb1
  have hG := hg1.trans hg2
  have hs2' : w2.heap.size = w.heap.size + 2 := by omega
  obtain ⟨N, hN⟩ : ∃ N, w.heap.size = N := ⟨_, rfl⟩
  have hrbN : Hid (rb < N) := by show _ < _; rw [← hN]; exact (Array.getElem?_eq_some_iff.1 hrb).1
  replace hrb := hG.heap hrb
  rw [hN] at hb1 hb2 hs2' ⊢
  have hB2 : Hid (N + 2 ≤ w2.heap.size) := by show _ ≤ _; omega
  have c0 := row_cellT hb1 0 _ rfl
  have c1 := row_cellT hb1 1 _ rfl
  have c2 := row_cellT hb1 2 _ rfl
  have c3 := row_cellT hb1 3 _ rfl
  have c4' := row_cellT hb1 4 _ rfl
  have r1 := row_cellT hrb 1 _ rfl
  have HB1 := Lib.hid hb1
  have HB2 := Lib.hid hb2
  have HRB := Lib.hid hrb
  have HG := Lib.hid hG
  have HS2 := Lib.hid hs2'
  have HN := Lib.hid hN
  have hsl : Hid (lenok s.size) := HB.out.2.2.2
  clear hb1 hb2 hG hs1 hs2 hs2' hg1 hg2 hN hrb
  refine wp_region_last Grew [[], [0], [], [2], [], [4], [], [6], [], [8], [9], [10], [7, 11], [], [13], [], [15], [16], [17], [14, 18], [1, 3, 5, 12, 19], [], [20, 21]] [[(10, 2), (11, 3), (12, 4), (13, 5), (14, 6), (15, 7), (16, 8), (17, 9), (18, 10), (19, 11), (20, 12), (21, 13), (22, 14), (23, 15), (24, 16), (25, 17), (26, 18), (27, 19), (28, 20), (5, 21)], [(8, 0), (10, 2), (11, 3), (12, 4), (13, 5), (14, 6), (15, 7), (16, 8), (17, 9), (18, 10), (19, 11), (20, 12), (21, 13), (22, 14), (23, 15), (24, 16), (25, 17), (26, 18), (27, 19), (5, 21)], [(8, 0), (9, 1), (12, 4), (13, 5), (14, 6), (15, 7), (16, 8), (17, 9), (18, 10), (19, 11), (20, 12), (21, 13), (22, 14), (23, 15), (24, 16), (25, 17), (26, 18), (27, 19), (28, 20), (5, 21)], [(8, 0), (9, 1), (10, 2), (12, 4), (13, 5), (14, 6), (15, 7), (16, 8), (17, 9), (18, 10), (19, 11), (20, 12), (21, 13), (22, 14), (23, 15), (24, 16), (25, 17), (26, 18), (27, 19), (5, 21)], [(8, 0), (9, 1), (10, 2), (11, 3), (14, 6), (15, 7), (16, 8), (17, 9), (18, 10), (19, 11), (20, 12), (21, 13), (22, 14), (23, 15), (24, 16), (25, 17), (26, 18), (27, 19), (28, 20), (5, 21)], [(8, 0), (9, 1), (10, 2), (11, 3), (12, 4), (14, 6), (15, 7), (16, 8), (17, 9), (18, 10), (19, 11), (20, 12), (21, 13), (22, 14), (23, 15), (24, 16), (25, 17), (26, 18), (27, 19), (5, 21)], [(8, 0), (9, 1), (10, 2), (11, 3), (12, 4), (13, 5), (16, 8), (17, 9), (18, 10), (19, 11), (20, 12), (21, 13), (22, 14), (23, 15), (24, 16), (25, 17), (26, 18), (27, 19), (28, 20), (5, 21)], [(8, 0), (9, 1), (10, 2), (11, 3), (12, 4), (13, 5), (14, 6), (16, 8), (17, 9), (18, 10), (19, 11), (21, 13), (22, 14), (23, 15), (24, 16), (25, 17), (26, 18), (27, 19), (28, 20), (5, 21)], [(8, 0), (9, 1), (10, 2), (11, 3), (12, 4), (13, 5), (14, 6), (15, 7), (18, 10), (19, 11), (20, 12), (21, 13), (22, 14), (23, 15), (24, 16), (25, 17), (26, 18), (27, 19), (28, 20), (5, 21)], [(8, 0), (9, 1), (10, 2), (11, 3), (12, 4), (13, 5), (14, 6), (15, 7), (16, 8), (19, 11), (20, 12), (21, 13), (22, 14), (23, 15), (24, 16), (25, 17), (26, 18), (27, 19), (28, 20), (5, 21)], [(8, 0), (9, 1), (10, 2), (11, 3), (12, 4), (13, 5), (14, 6), (15, 7), (16, 8), (17, 9), (20, 12), (21, 13), (22, 14), (23, 15), (24, 16), (25, 17), (26, 18), (27, 19), (28, 20), (5, 21)], [(8, 0), (9, 1), (10, 2), (11, 3), (12, 4), (13, 5), (14, 6), (15, 7), (16, 8), (17, 9), (18, 10), (21, 13), (22, 14), (23, 15), (24, 16), (25, 17), (26, 18), (27, 19), (28, 20), (5, 21)], [(8, 0), (9, 1), (10, 2), (11, 3), (12, 4), (13, 5), (14, 6), (15, 7), (16, 8), (17, 9), (18, 10), (19, 11), (21, 13), (22, 14), (23, 15), (24, 16), (25, 17), (26, 18), (27, 19), (5, 21)], [(8, 0), (9, 1), (10, 2), (11, 3), (12, 4), (13, 5), (14, 6), (15, 7), (16, 8), (17, 9), (18, 10), (19, 11), (20, 12), (23, 15), (24, 16), (25, 17), (26, 18), (27, 19), (28, 20), (5, 21)], [(8, 0), (9, 1), (10, 2), (11, 3), (12, 4), (13, 5), (14, 6), (15, 7), (16, 8), (17, 9), (18, 10), (19, 11), (20, 12), (21, 13), (23, 15), (24, 16), (25, 17), (26, 18), (28, 20), (5, 21)], [(8, 0), (9, 1), (10, 2), (11, 3), (12, 4), (13, 5), (14, 6), (15, 7), (16, 8), (17, 9), (18, 10), (19, 11), (20, 12), (21, 13), (22, 14), (25, 17), (26, 18), (27, 19), (28, 20), (5, 21)], [(8, 0), (9, 1), (10, 2), (11, 3), (12, 4), (13, 5), (14, 6), (15, 7), (16, 8), (17, 9), (18, 10), (19, 11), (20, 12), (21, 13), (22, 14), (23, 15), (26, 18), (27, 19), (28, 20), (5, 21)], [(8, 0), (9, 1), (10, 2), (11, 3), (12, 4), (13, 5), (14, 6), (15, 7), (16, 8), (17, 9), (18, 10), (19, 11), (20, 12), (21, 13), (22, 14), (23, 15), (24, 16), (27, 19), (28, 20), (5, 21)], [(8, 0), (9, 1), (10, 2), (11, 3), (12, 4), (13, 5), (14, 6), (15, 7), (16, 8), (17, 9), (18, 10), (19, 11), (20, 12), (21, 13), (22, 14), (23, 15), (24, 16), (25, 17), (28, 20), (5, 21)], [(8, 0), (9, 1), (10, 2), (11, 3), (12, 4), (13, 5), (14, 6), (15, 7), (16, 8), (17, 9), (18, 10), (19, 11), (20, 12), (21, 13), (22, 14), (23, 15), (24, 16), (25, 17), (26, 18), (5, 21)], [(8, 0), (9, 1), (10, 2), (11, 3), (12, 4), (13, 5), (14, 6), (15, 7), (16, 8), (17, 9), (18, 10), (19, 11), (20, 12), (21, 13), (22, 14), (23, 15), (24, 16), (25, 17), (26, 18), (27, 19), (5, 21)], [(8, 0), (9, 1), (10, 2), (11, 3), (12, 4), (13, 5), (14, 6), (15, 7), (16, 8), (17, 9), (18, 10), (19, 11), (20, 12), (21, 13), (22, 14), (23, 15), (24, 16), (25, 17), (26, 18), (27, 19), (28, 20)], [(8, 0), (9, 1), (10, 2), (11, 3), (12, 4), (13, 5), (14, 6), (15, 7), (16, 8), (17, 9), (18, 10), (19, 11), (20, 12), (21, 13), (22, 14), (23, 15), (24, 16), (25, 17), (26, 18), (27, 19), (28, 20), (5, 21)]]
    [Is (.pointer (some ⟨N, 0, none⟩)), Is (.int .i64 k), Is (.pointer (some ⟨N, 1, none⟩)), Is (.int .i64 n), Is (.pointer (some ⟨N, 2, none⟩)), Is (.int .u64 u), Is (.pointer (some ⟨N, 3, none⟩)), Is (.string s), Is (bptr rb), Is (bptr rb), Is (.pointer (some ⟨rb, 1, none⟩)), Is (.int .i64 long), Is (.string (shortS s long)), Is (.pointer (some ⟨N, 4, none⟩)), Is (.slice a4 keys.length c4), Is (bptr rb), Is (bptr rb), Is (.pointer (some ⟨rb, 1, none⟩)), Is (.int .i64 long), fun v w => OwnS w (N + 2) v (textsS keys 64 long), fun v w => ∃ kv', v = .agg #[.int .i64 k, .int .i64 n, .int .u64 u, .string (shortS s long), kv', .slice none 0 0] ∧ OwnS w (N + 2) kv' (textsS keys 64 long), fun v w => ∃ g, v = .pointer (some ⟨g, 0, none⟩) ∧ (N + 2) ≤ g ∧ w.heap[g]? = some (rowN zeroNode)]
    (by kernel_rfl) Grew.trans Grew.refl (Grew.refl _).drew (by kernel_rfl) ⟨is_st, is_st, is_st, is_st, is_st, is_st, is_st, is_st, is_st, is_st, is_st, is_st, is_st, is_st, is_st, is_st, is_st, is_st, is_st, fun _ _ _ hg h => OwnS.grew h hg, fun _ _ _ hg h => h.elim fun q h => ⟨q, h.1, OwnS.grew h.2 hg⟩, fun _ _ _ hg h => h.elim fun q h => ⟨q, h.1, h.2.1, hg.heap h.2.2⟩, trivial⟩ rfl ⟨?_, ?_, ?_, ?_, ?_, ?_, ?_, ?_, ?_, ?_, ?_, ?_, ?_, ?_, ?_, ?_, ?_, ?_, ?_, ?_, ?_, ?_, trivial⟩ ?_ rfl
  · intro y w2' hG hD K hK
    simp only [fillL, Act.put, List.setIfInBounds_toArray, List.set_cons_zero, List.set_cons_succ, List.getD_cons_zero, List.getD_cons_succ, Is] at hK ⊢
    refine ite_yes (by rfl) ?_
    go_simp
    exact hK _ _ _ rfl (Grew.refl _) rfl
  · intro y w2' hG hD K hK
    simp only [depsH, List.getD_cons_zero, List.getD_cons_succ, Is, and_true] at hD
    have h0 := hD
    clear hD
    have dc0 := hG.cell c0
    have dc1 := hG.cell c1
    have dc2 := hG.cell c2
    have dc3 := hG.cell c3
    have dc4' := hG.cell c4'
    have dr1 := hG.cell r1
    simp only [fillL, Act.put, List.setIfInBounds_toArray, List.set_cons_zero, List.set_cons_succ, List.getD_cons_zero, List.getD_cons_succ, Is] at hK ⊢
    rw [h0] at hK ⊢
    clear h0
    refine ite_yes (by rfl) ?_
    go_simp
    exact hK _ _ _ rfl (Grew.refl _) rfl
  · intro y w2' hG hD K hK
    simp only [fillL, Act.put, List.setIfInBounds_toArray, List.set_cons_zero, List.set_cons_succ, List.getD_cons_zero, List.getD_cons_succ, Is] at hK ⊢
    refine ite_yes (by rfl) ?_
    go_simp
    exact hK _ _ _ rfl (Grew.refl _) rfl
  · intro y w2' hG hD K hK
    simp only [depsH, List.getD_cons_zero, List.getD_cons_succ, Is, and_true] at hD
    have h2 := hD
    clear hD
    have dc0 := hG.cell c0
    have dc1 := hG.cell c1
    have dc2 := hG.cell c2
    have dc3 := hG.cell c3
    have dc4' := hG.cell c4'
    have dr1 := hG.cell r1
    simp only [fillL, Act.put, List.setIfInBounds_toArray, List.set_cons_zero, List.set_cons_succ, List.getD_cons_zero, List.getD_cons_succ, Is] at hK ⊢
    rw [h2] at hK ⊢
    clear h2
    refine ite_yes (by rfl) ?_
    go_simp
    exact hK _ _ _ rfl (Grew.refl _) rfl
  · intro y w2' hG hD K hK
    simp only [fillL, Act.put, List.setIfInBounds_toArray, List.set_cons_zero, List.set_cons_succ, List.getD_cons_zero, List.getD_cons_succ, Is] at hK ⊢
    refine ite_yes (by rfl) ?_
    go_simp
    exact hK _ _ _ rfl (Grew.refl _) rfl
  · intro y w2' hG hD K hK
    simp only [depsH, List.getD_cons_zero, List.getD_cons_succ, Is, and_true] at hD
    have h4 := hD
    clear hD
    have dc0 := hG.cell c0
    have dc1 := hG.cell c1
    have dc2 := hG.cell c2
    have dc3 := hG.cell c3
    have dc4' := hG.cell c4'
    have dr1 := hG.cell r1
    simp only [fillL, Act.put, List.setIfInBounds_toArray, List.set_cons_zero, List.set_cons_succ, List.getD_cons_zero, List.getD_cons_succ, Is] at hK ⊢
    rw [h4] at hK ⊢
    clear h4
    refine ite_yes (by rfl) ?_
    go_simp
    exact hK _ _ _ rfl (Grew.refl _) rfl
  · intro y w2' hG hD K hK
    simp only [fillL, Act.put, List.setIfInBounds_toArray, List.set_cons_zero, List.set_cons_succ, List.getD_cons_zero, List.getD_cons_succ, Is] at hK ⊢
    refine ite_yes (by rfl) ?_
    go_simp
    exact hK _ _ _ rfl (Grew.refl _) rfl
  · intro y w2' hG hD K hK
    simp only [depsH, List.getD_cons_zero, List.getD_cons_succ, Is, and_true] at hD
    have h6 := hD
    clear hD
    have dc0 := hG.cell c0
    have dc1 := hG.cell c1
    have dc2 := hG.cell c2
    have dc3 := hG.cell c3
    have dc4' := hG.cell c4'
    have dr1 := hG.cell r1
    simp only [fillL, Act.put, List.setIfInBounds_toArray, List.set_cons_zero, List.set_cons_succ, List.getD_cons_zero, List.getD_cons_succ, Is] at hK ⊢
    rw [h6] at hK ⊢
    clear h6
    refine ite_yes (by rfl) ?_
    go_simp
    exact hK _ _ _ rfl (Grew.refl _) rfl
  · intro y w2' hG hD K hK
    simp only [fillL, Act.put, List.setIfInBounds_toArray, List.set_cons_zero, List.set_cons_succ, List.getD_cons_zero, List.getD_cons_succ, Is] at hK ⊢
    refine ite_yes (by rfl) ?_
    go_simp
    exact hK _ _ _ rfl (Grew.refl _) rfl
  · intro y w2' hG hD K hK
    simp only [depsH, List.getD_cons_zero, List.getD_cons_succ, Is, and_true] at hD
    have h8 := hD
    clear hD
    simp only [fillL, Act.put, List.setIfInBounds_toArray, List.set_cons_zero, List.set_cons_succ, List.getD_cons_zero, List.getD_cons_succ, Is] at hK ⊢
    rw [h8] at hK ⊢
    clear h8
    refine ite_yes (by rfl) ?_
    go_simp
    exact hK _ _ _ rfl (Grew.refl _) rfl
  · intro y w2' hG hD K hK
    simp only [depsH, List.getD_cons_zero, List.getD_cons_succ, Is, and_true] at hD
    have h9 := hD
    clear hD
    simp only [fillL, Act.put, List.setIfInBounds_toArray, List.set_cons_zero, List.set_cons_succ, List.getD_cons_zero, List.getD_cons_succ, Is] at hK ⊢
    rw [h9] at hK ⊢
    clear h9
    refine ite_yes (by rfl) ?_
    go_simp
    exact hK _ _ _ rfl (Grew.refl _) rfl
  · intro y w2' hG hD K hK
    simp only [depsH, List.getD_cons_zero, List.getD_cons_succ, Is, and_true] at hD
    have h10 := hD
    clear hD
    have dc0 := hG.cell c0
    have dc1 := hG.cell c1
    have dc2 := hG.cell c2
    have dc3 := hG.cell c3
    have dc4' := hG.cell c4'
    have dr1 := hG.cell r1
    simp only [fillL, Act.put, List.setIfInBounds_toArray, List.set_cons_zero, List.set_cons_succ, List.getD_cons_zero, List.getD_cons_succ, Is] at hK ⊢
    rw [h10] at hK ⊢
    clear h10
    refine ite_yes (by rfl) ?_
    go_simp
    exact hK _ _ _ rfl (Grew.refl _) rfl
  · intro y w2' hG hD K hK
    simp only [depsH, List.getD_cons_zero, List.getD_cons_succ, Is, and_true] at hD
    have h7 := hD.1
    have h11 := hD.2
    clear hD
    simp only [fillL, Act.put, List.setIfInBounds_toArray, List.set_cons_zero, List.set_cons_succ, List.getD_cons_zero, List.getD_cons_succ, Is] at hK ⊢
    rw [h7, h11] at hK ⊢
    clear h7 h11
    refine ite_yes (by rfl) ?_
    go_simp
    refine (short_any' _ s long hsl.out hlong).mono ?_
    rintro r w3 ⟨rfl, rfl⟩
    exact hK _ _ _ rfl (Grew.refl _) rfl
  · intro y w2' hG hD K hK
    simp only [fillL, Act.put, List.setIfInBounds_toArray, List.set_cons_zero, List.set_cons_succ, List.getD_cons_zero, List.getD_cons_succ, Is] at hK ⊢
    refine ite_yes (by rfl) ?_
    go_simp
    exact hK _ _ _ rfl (Grew.refl _) rfl
  · intro y w2' hG hD K hK
    simp only [depsH, List.getD_cons_zero, List.getD_cons_succ, Is, and_true] at hD
    have h13 := hD
    clear hD
    have dc0 := hG.cell c0
    have dc1 := hG.cell c1
    have dc2 := hG.cell c2
    have dc3 := hG.cell c3
    have dc4' := hG.cell c4'
    have dr1 := hG.cell r1
    simp only [fillL, Act.put, List.setIfInBounds_toArray, List.set_cons_zero, List.set_cons_succ, List.getD_cons_zero, List.getD_cons_succ, Is] at hK ⊢
    rw [h13] at hK ⊢
    clear h13
    refine ite_yes (by rfl) ?_
    go_simp
    exact hK _ _ _ rfl (Grew.refl _) rfl
  · intro y w2' hG hD K hK
    simp only [fillL, Act.put, List.setIfInBounds_toArray, List.set_cons_zero, List.set_cons_succ, List.getD_cons_zero, List.getD_cons_succ, Is] at hK ⊢
    refine ite_yes (by rfl) ?_
    go_simp
    exact hK _ _ _ rfl (Grew.refl _) rfl
  · intro y w2' hG hD K hK
    simp only [depsH, List.getD_cons_zero, List.getD_cons_succ, Is, and_true] at hD
    have h15 := hD
    clear hD
    simp only [fillL, Act.put, List.setIfInBounds_toArray, List.set_cons_zero, List.set_cons_succ, List.getD_cons_zero, List.getD_cons_succ, Is] at hK ⊢
    rw [h15] at hK ⊢
    clear h15
    refine ite_yes (by rfl) ?_
    go_simp
    exact hK _ _ _ rfl (Grew.refl _) rfl
  · intro y w2' hG hD K hK
    simp only [depsH, List.getD_cons_zero, List.getD_cons_succ, Is, and_true] at hD
    have h16 := hD
    clear hD
    simp only [fillL, Act.put, List.setIfInBounds_toArray, List.set_cons_zero, List.set_cons_succ, List.getD_cons_zero, List.getD_cons_succ, Is] at hK ⊢
    rw [h16] at hK ⊢
    clear h16
    refine ite_yes (by rfl) ?_
    go_simp
    exact hK _ _ _ rfl (Grew.refl _) rfl
  · intro y w2' hG hD K hK
    simp only [depsH, List.getD_cons_zero, List.getD_cons_succ, Is, and_true] at hD
    have h17 := hD
    clear hD
    have dc0 := hG.cell c0
    have dc1 := hG.cell c1
    have dc2 := hG.cell c2
    have dc3 := hG.cell c3
    have dc4' := hG.cell c4'
    have dr1 := hG.cell r1
    simp only [fillL, Act.put, List.setIfInBounds_toArray, List.set_cons_zero, List.set_cons_succ, List.getD_cons_zero, List.getD_cons_succ, Is] at hK ⊢
    rw [h17] at hK ⊢
    clear h17
    refine ite_yes (by rfl) ?_
    go_simp
    exact hK _ _ _ rfl (Grew.refl _) rfl
  · intro y w2' hG hD K hK
    simp only [depsH, List.getD_cons_zero, List.getD_cons_succ, Is, and_true] at hD
    have h14 := hD.1
    have h18 := hD.2
    clear hD
    simp only [fillL, Act.put, List.setIfInBounds_toArray, List.set_cons_zero, List.set_cons_succ, List.getD_cons_zero, List.getD_cons_succ, Is] at hK ⊢
    rw [h14, h18] at hK ⊢
    clear h14 h18
    refine ite_yes (by rfl) ?_
    go_simp
    refine (texts_any 64 long _ _ _ (HKS.out.grew (HW0.out.trans (HG.out.trans hG))) (by omega) hlong).mono ?_
    rintro r w3 ⟨v', rfl, hv, hg⟩
    exact hK _ _ _ rfl hg (rows_base hv (Nat.le_trans hB2.out hG.size))
  · intro y w2' hG hD K hK
    simp only [depsH, List.getD_cons_zero, List.getD_cons_succ, Is, and_true] at hD
    have h1 := hD.1
    have h3 := hD.2.1
    have h5 := hD.2.2.1
    have h12 := hD.2.2.2.1
    have h19 := hD.2.2.2.2
    clear hD
    simp only [fillL, Act.put, List.setIfInBounds_toArray, List.set_cons_zero, List.set_cons_succ, List.getD_cons_zero, List.getD_cons_succ, Is] at hK ⊢
    rw [h1, h3, h5, h12] at hK ⊢
    clear h1 h3 h5 h12
    refine ite_yes (by rfl) ?_
    refine Exists.elim (rows_form h19) fun va h => Exists.elim h fun vc h => ?_
    have hs := h.1
    clear h
    rw [hs] at hK h19 ⊢
    go_simp
    exact hK _ _ _ rfl (Grew.refl _) ⟨_, rfl, h19⟩
  · intro y w2' hG hD K hK
    simp only [fillL, Act.put, List.setIfInBounds_toArray, List.set_cons_zero, List.set_cons_succ, List.getD_cons_zero, List.getD_cons_succ, Is] at hK ⊢
    refine ite_yes (by rfl) ?_
    go_simp
    exact hK _ _ _ rfl ((Grew.refl _).alloc _) ⟨_, rfl, Nat.le_trans hB2.out hG.size, heap_alloc_new _ _⟩
  · intro y w2' hG hF K hK
    simp only [factsH, Is, and_true, Nat.reduceAdd] at hF
    have h0 := hF.1
    have h1 := hF.2.1
    have h2 := hF.2.2.1
    have h3 := hF.2.2.2.1
    have h4 := hF.2.2.2.2.1
    have h5 := hF.2.2.2.2.2.1
    have h6 := hF.2.2.2.2.2.2.1
    have h7 := hF.2.2.2.2.2.2.2.1
    have h8 := hF.2.2.2.2.2.2.2.2.1
    have h9 := hF.2.2.2.2.2.2.2.2.2.1
    have h10 := hF.2.2.2.2.2.2.2.2.2.2.1
    have h11 := hF.2.2.2.2.2.2.2.2.2.2.2.1
    have h12 := hF.2.2.2.2.2.2.2.2.2.2.2.2.1
    have h13 := hF.2.2.2.2.2.2.2.2.2.2.2.2.2.1
    have h14 := hF.2.2.2.2.2.2.2.2.2.2.2.2.2.2.1
    have h15 := hF.2.2.2.2.2.2.2.2.2.2.2.2.2.2.2.1
    have h16 := hF.2.2.2.2.2.2.2.2.2.2.2.2.2.2.2.2.1
    have h17 := hF.2.2.2.2.2.2.2.2.2.2.2.2.2.2.2.2.2.1
    have h18 := hF.2.2.2.2.2.2.2.2.2.2.2.2.2.2.2.2.2.2.1
    have h19 := hF.2.2.2.2.2.2.2.2.2.2.2.2.2.2.2.2.2.2.2.1
    have h20 := hF.2.2.2.2.2.2.2.2.2.2.2.2.2.2.2.2.2.2.2.2.1
    have h21 := hF.2.2.2.2.2.2.2.2.2.2.2.2.2.2.2.2.2.2.2.2.2
    clear hF
    simp only [lastOf]
    simp only [fillL, Act.put, List.setIfInBounds_toArray, List.set_cons_zero, List.set_cons_succ, List.getD_cons_zero, List.getD_cons_succ, Is] at hK ⊢
    rw [h0, h1, h2, h3, h4, h5, h6, h7, h8, h9, h10, h11, h12, h13, h14, h15, h16, h17, h18]
    clear h0 h1 h2 h3 h4 h5 h6 h7 h8 h9 h10 h11 h12 h13 h14 h15 h16 h17 h18
    refine ite_yes (by rfl) ?_
    refine Exists.elim h20 fun kv' h => ?_
    have hs20 := h.1
    have hkv := h.2
    refine Exists.elim (rows_form hkv) fun va h => Exists.elim h fun vc h => ?_
    have hs := h.1
    rw [hs] at hkv hs20
    clear h h20 hs h19
    refine Exists.elim h21 fun g h => ?_
    have hs21 := h.1
    have hgB := h.2.1
    have hrow := h.2.2
    clear h h21
    rw [hs20, hs21]
    clear hs20 hs21
    have f0 := row_frozen hrow 0
    have f1 := row_frozen hrow 1
    have f2 := row_frozen hrow 2
    have f3 := row_frozen hrow 3
    have f4 := row_frozen hrow 4
    have f5 := row_frozen hrow 5
    have d0 := row_cellT hrow 0 _ rfl
    have d1 := row_cellT hrow 1 _ rfl
    have d2 := row_cellT hrow 2 _ rfl
    have d3 := row_cellT hrow 3 _ rfl
    have d4 := row_cellT hrow 4 _ rfl
    have d5 := row_cellT hrow 5 _ rfl
    have hrow2 := heap_store6 hrow (.int .i64 k) (.int .i64 n) (.int .u64 u) (.string (shortS s long)) (.slice va (textsS keys 64 long).length vc) (.slice none 0 0)
    have hmv := moved_store6 w2' g (.int .i64 k) (.int .i64 n) (.int .u64 u) (.string (shortS s long)) (.slice va (textsS keys 64 long).length vc) (.slice none 0 0)
    have hkv2 : OwnS _ (N + 2) (.slice va (textsS keys 64 long).length vc) (textsS keys 64 long) := Moved.owns hmv hkv (fun q hq e => not_block hkv hrow (by decide) (by rw [hq, e]))
    have hgr := Moved.fresh hG hmv (fun q e => by have := HS2.out; omega)
    clear hG hrow hmv hkv
    go_simp
    refine hK _ _ ?_
    clear f0 f1 f2 f3 f4 f5 d0 d1 d2 d3 d4 d5 hK
    generalize ((((((w2'.setCell ⟨g, 0, none⟩ (.int .i64 k)).setCell ⟨g, 1, none⟩ (.int .i64 n)).setCell ⟨g, 2, none⟩ (.int .u64 u)).setCell ⟨g, 3, none⟩ (.string (shortS s long))).setCell ⟨g, 4, none⟩ (.slice va (textsS keys 64 long).length vc)).setCell ⟨g, 5, none⟩ (.slice none 0 0)) = w3 at *
    have HROW := Lib.hid hrow2
    have HKV := Lib.hid hkv2
    have HB1' := Lib.hid (hgr.heap HB1.out)
    have HB2' := Lib.hid (hgr.heap HB2.out)
    have HRB' := Lib.hid (hgr.heap HRB.out)
    have HG3 := Lib.hid (HG.out.trans hgr)
    clear hrow2 hkv2 HB1 HB2 HRB HG c0 c1 c2 c3 c4' r1
    have hgN : Hid (N + 2 ≤ g) := hgB
    clear hgB
    generalize y 19 = y19
    have hkz2 : Hid (∀ x ∈ textsS keys 64 long, lenok x.size) := textsS_lenok hkz.out 64 long
    generalize hK2 : textsS keys 64 long = keys2 at *
    have HK2 := Lib.hid hK2
    clear hK2
    have hsl2 : Hid (lenok (shortS s long).size) := shortS_lenok hsl.out long
    generalize hSS : shortS s long = s2 at *
    have HSS := Lib.hid hSS
    clear hSS
    go_wp2_with fail
    go_loopw [6, 7] (fun v i wr => ∃ (kk lf : Nat), kk ≤ l.length ∧ lf ≤ 4096 ∧ i = .int .i64 kk ∧ Hid (Grow (fun g => g = rb) w3 wr v (cutTrs long left (l.take kk)).1 ∧ (cutTrs long left (l.take kk)).2 = lf ∧ wr.heap[rb]? = some (roomR lf long))) (fun _ i _ => l.length - (intOf i).toNat)
    case atStart => exact ⟨0, left, Nat.zero_le _, hleft, rfl, by
      show _ ∧ _ ∧ _
      exact ⟨by simpa [cutTrs] using Grow.start _ _, by simp [cutTrs], HRB'.out⟩⟩
    case round =>
      obtain ⟨kk, lf, hkk, hlf, rfl, HW⟩ := hrel
      have hm3 : Moved (fun g => g = rb) w3 wr := by obtain ⟨_, _, _, _, _, hm⟩ := HW.out.1; exact hm
      have HM := Lib.hid hm3
      have b5 := row_cellT (hm3.heap HB1'.out (by have := hrbN.out; omega)) 5 _ rfl
      have q0 := row_cellT HW.out.2.2 0 _ rfl
      clear hm3
      by_cases hgo : kk < l.length ∧ 0 < lf
      · obtain ⟨hlt, hpos⟩ := hgo
        obtain ⟨p, rfl⟩ : ∃ p, lf = p + 1 := ⟨lf - 1, by omega⟩
        obtain ⟨x, hx⟩ : ∃ x, l[kk]? = some x := ⟨_, List.getElem?_eq_getElem hlt⟩
        obtain ⟨xv, hxv, hnx⟩ := HK.out.get hx
        have hxm : x ∈ l := List.mem_of_getElem? hx
        have HX := Lib.hid (cutTrs_next long left l kk p x hx HW.out.2.1)
        have hxs := HSZ.out x hxm
        have hWr : Hid (Grew W wr) := Moved.fresh (HW0.out.trans HG3.out) HM.out (fun g h => by omega)
        have HNX := Lib.hid hnx
        obtain ⟨b, off, rfl, hc6⟩ : ∃ b off, a5 = some ⟨b, off, none⟩ ∧ Cells6 wr b (off + kk * 6) xv := by
          obtain ⟨a, c, e, _, _, _, h⟩ := HROWS.out
          injection e with e1 e2 e3
          subst e1
          obtain ⟨b, off, e, h6⟩ := h kk xv hxv
          exact ⟨b, off, e, h6.grew hWr.out⟩
        obtain ⟨xk, xn, xu, xs, xa4, xn4, xc4, xa5, xn5, xc5, rfl⟩ := hnx.node6
        have hmS : Moved (fun g => g = rb) wr (wr.setCell ⟨rb, 0, none⟩ (.int .i64 p)) := Moved.setCell (S := fun g => g = rb) (p := ⟨rb, 0, none⟩) (Moved.refl _ wr) (fun _ => rfl) _
        obtain ⟨e0, e1, e2, e3, e4, e5⟩ := hc6.get
        have qf := row_frozen HW.out.2.2 0
        have hlti : (kk : Int) < l.length := by omega
        have HROOM := Lib.hid (roomR_set HW.out.2.2 p)
        have hne : ¬ b = rb := by
          have h0 := (hc6.grew (Grew.refl _)).get.1
          obtain ⟨a, c, e, _, _, _, h⟩ := HROWS.out
          injection e with e1 e2 e3
          obtain ⟨b', off', e, h6⟩ := h kk _ hxv
          rw [← e1] at e
          injection e with e
          injection e with e
          have := World.block_lt_of_cell? W _ h6.get.1
          simp only at this
          omega
        have hne2 : ¬ rb = b := fun e => hne e.symm
        have hrN : ¬ rb = N := by have := hrbN.out; omega
        have hrN2 : ¬ N = rb := by have := hrbN.out; omega
        clear hc6 hx hxv hnx hxm hpos
        have HMS := Lib.hid hmS
        have hrb3 : Hid (rb < w3.heap.size) := (Array.getElem?_eq_some_iff.1 HRB'.out).1
        have HWS : Hid (Grew W (wr.setCell ⟨rb, 0, none⟩ (.int .i64 p))) := Moved.fresh hWr.out hmS (fun g h => by omega)
        have HWK : Hid (Grow (fun g => g = rb) w3 (wr.setCell ⟨rb, 0, none⟩ (.int .i64 p)) u6 (cutTrs long left (l.take kk)).1) := HW.out.1.kept hmS (fun g h => by have := hrb3.out; omega) (fun _ h => h)
        clear hmS
        go_wp2_with fail
        refine (ih x hxs _ _ p (by omega) HNX.out HWS.out HROOM.out).mono ?_
        rintro r w4 ⟨xv, rfl, hox, hm4, hr4⟩
        obtain ⟨yk, yn, yu, ys, ya4, yn4, yc4, ya5, yn5, yc5, rfl⟩ := hox.node6
        have HOX := Lib.hid hox
        have HM4 := Lib.hid hm4
        have HR4 := Lib.hid hr4
        obtain ⟨vs4, S4, q1, q2, q3, q4⟩ := HWK.out
        obtain ⟨ga, gc, rfl, hz1, hz2, hz3⟩ := HWK.out.form
        have HLN : Hid ((cutTrs long left (l.take kk)).1.length ≤ 4096) := by
          show _ ≤ _
          have h1 := length_sizeL (cutTrs long left (l.take kk)).1
          have h2 := cutTrs_size long (l.take kk) left
          omega
        have HV4 : Hid (vs4.length ≤ 4096) := by show _ ≤ _; rw [q2.length]; exact HLN.out
        have HLF : Hid ((cutTr long p x).2 ≤ 4096) := by
          show _ ≤ _
          have h1 := cutTr_size long x p
          have h2 := (cutTr long p x).1.size_pos
          omega
        have HQ1 := Lib.hid q1
        have HQ2 := Lib.hid q2
        have HQ3 := Lib.hid q3
        have HQ4 := Lib.hid q4
        have HSW : Hid (w3.heap.size ≤ w4.heap.size) := Nat.le_trans q4.size hm4.size
        have HON : Hid (∀ o, OwnN (w4.alloc o) w3.heap.size (.slice ga (cutTrs long left (l.take kk)).1.length gc) vs4) := fun o => OwnN.grew ⟨Moved.owns hm4 q1.1 (fun g hg e => by have := (World.ownsRow.lt q1.1 g hg).1; have := hrb3.out; omega), q1.2⟩ ((Grew.refl _).alloc o)
        have HSZ4 : Hid (∀ o, w3.heap.size ≤ (w4.alloc o).heap.size) := fun o => Nat.le_trans HSW.out ((Grew.refl w4).alloc o).size
        clear q0 q1 q2 q3 q4 hz1 hz2 hz3 hox hm4 hr4 HW HWK e0 e1 e2 e3 e4 e5 b5 qf
        generalize (cutTrs long left (l.take kk)).1 = L at *
        go_wp2_with (at_builtin; refine wpList_appendN rfl _ _ rfl w3.heap.size _ vs4 rfl (HON.out _) _ _ (.agg #[.int .i64 yk, .int .i64 yn, .int .u64 yu, .string ys, .slice ya4 yn4 yc4, .slice ya5 yn5 yc5]) rfl (heap_alloc_new _ _) ⟨_, _, _, _, _, _, _, _, _, _, rfl⟩ (by have := HV4.out; omega) (HSZ4.out _) ?_; intro v' w5 hown hgr hnx; obtain ⟨va2, vc2, rfl, hz1, hz2, hz3⟩ := rows_form hown.1; have HG5 := Lib.hid (And.intro (Grow.step (R := fun g => g = rb) (fun g h => by have := hrb3.out; omega) vs4 S4 HQ2.out HQ1.out HQ3.out HQ4.out HOX.out HM4.out _ hown hgr hnx) ((Moved.of_grown hgr).heap (((Grew.refl w4).alloc _).heap HR4.out) (fun e => by have := (World.ownsRow.lt HQ1.out.1 rb e.symm).1; have := hrb3.out; omega))); clear hown hgr hnx hz1 hz2 hz3)
        go_roundw
        case rel =>
          refine ⟨kk + 1, (cutTr long p x).2, by omega, HLF.out, by go_num, ?_⟩
          show _ ∧ _ ∧ _
          rw [HX.out]
          have hh := HG5.out
          rw [List.length_append] at hh
          exact ⟨hh.1, rfl, hh.2⟩
        case measure => simp [intOf]; omega
      · have hend := cutTrs_end long left l kk (by have := HW.out.2.1; omega)
        have HE := HW.out
        rw [hend] at HE
        have HEH := Lib.hid HE
        have hrow := HM.out.heap HROW.out (by have := hgN.out; have := hrbN.out; omega)
        have hres := HM.out.heap HB2'.out (by have := hrbN.out; omega)
        have HROWW := Lib.hid hrow
        have HRESW := Lib.hid hres
        have f5 := row_frozen hrow 5
        have r0 := row_frozen hres 0
        have r1 := row_frozen hres 1
        have r2 := row_frozen hres 2
        have r3 := row_frozen hres 3
        have r4 := row_frozen hres 4
        have r5 := row_frozen hres 5
        have d0 := row_cellT hrow 0 _ rfl
        have d1 := row_cellT hrow 1 _ rfl
        have d2 := row_cellT hrow 2 _ rfl
        have d3 := row_cellT hrow 3 _ rfl
        have d4 := row_cellT hrow 4 _ rfl
        have d5 := row_cellT hrow 5 _ rfl
        have z0 := row_cellT hres 0 _ rfl
        have z1 := row_cellT hres 1 _ rfl
        have z2 := row_cellT hres 2 _ rfl
        have z3 := row_cellT hres 3 _ rfl
        have z4 := row_cellT hres 4 _ rfl
        have z5 := row_cellT hres 5 _ rfl
        have hne : ¬ g = N + 1 := by have := hgN.out; omega
        have hne2 : ¬ N + 1 = g := by have := hgN.out; omega
        obtain ⟨ga, gc, rfl, hz1, hz2, hz3⟩ := HE.1.form
        obtain ⟨L, hL⟩ : ∃ L, (cutTrs long left l).1 = L := ⟨_, rfl⟩
        have hT := moved_close wr g (N + 1) (.int .i64 k) (.int .i64 n) (.int .u64 u) (.string s2) (.slice va keys2.length vc) (.slice ga (cutTrs long left l).1.length gc) (.slice ga (cutTrs long left l).1.length gc)
        have hWW : Moved (fun q => q = rb) w wr := (Moved.of_grew HG3.out).trans' HM.out
        have hMW : Moved (fun q => q = rb) w (store6 (wr.setCell ⟨g, 5, none⟩ (.slice ga (cutTrs long left l).1.length gc)) (N + 1) (.int .i64 k) (.int .i64 n) (.int .u64 u) (.string s2) (.slice va keys2.length vc) (.slice ga (cutTrs long left l).1.length gc)) := hWW.trans hT (fun j hj e => by have h1 := HN.out; have h2 := hgN.out; rcases e with rfl | rfl <;> omega)
        have hkvW : OwnS wr (N + 2) (.slice va keys2.length vc) keys2 := Moved.owns HM.out HKV.out (fun q hq e => by have := (World.ownsRow.lt HKV.out q hq).1; have := hrbN.out; omega)
        have hrbW := hT.heap HE.2.2 (fun e => by have := hgN.out; have := hrbN.out; omega)
        have hfin : OwnT (store6 (wr.setCell ⟨g, 5, none⟩ (.slice ga (cutTrs long left l).1.length gc)) (N + 1) (.int .i64 k) (.int .i64 n) (.int .u64 u) (.string s2) (.slice va keys2.length vc) (.slice ga (cutTrs long left l).1.length gc)) w.heap.size (.mk k n u s2 keys2 (cutTrs long left l).1) (.agg #[.int .i64 k, .int .i64 n, .int .u64 u, .string s2, .slice va keys2.length vc, .slice ga (cutTrs long left l).1.length gc]) (Fresh w (store6 (wr.setCell ⟨g, 5, none⟩ (.slice ga (cutTrs long left l).1.length gc)) (N + 1) (.int .i64 k) (.int .i64 n) (.int .u64 u) (.string s2) (.slice va keys2.length vc) (.slice ga (cutTrs long left l).1.length gc))) := by
          have h1 := HN.out
          have h2 := hgN.out
          have h3 : g < w3.heap.size := (Array.getElem?_eq_some_iff.1 HROW.out).1
          have h4 : N + 1 < w3.heap.size := (Array.getElem?_eq_some_iff.1 HB2'.out).1
          refine Grow.tree (((HE.1.wider (T := fun q => q = rb ∨ (q = g ∨ q = N + 1)) (fun _ h => .inl h)).kept hT (fun q hq => ?_) (fun _ h => .inr h))) ⟨HB.out.1, HB.out.2.1, HB.out.2.2.1, hsl2.out, hkz2.out⟩ HG3.out.size ?_ (fun q hq => (World.ownsRow.lt HKV.out q hq).2)
          · rcases hq with rfl | rfl <;> omega
          · refine rows_base (Moved.owns hT hkvW (fun q hq e => ?_)) (by omega)
            rcases e with rfl | rfl
            · exact not_block hkvW HROWW.out (by decide) hq
            · exact not_block hkvW HRESW.out (by decide) hq
        have HFIN : Hid (OwnT (store6 (wr.setCell ⟨g, 5, none⟩ (.slice ga (cutTrs long left l).1.length gc)) (N + 1) (.int .i64 k) (.int .i64 n) (.int .u64 u) (.string s2) (.slice va keys2.length vc) (.slice ga (cutTrs long left l).1.length gc)) w.heap.size (cutTr long left (.mk k n u s keys l)).1 (.agg #[.int .i64 k, .int .i64 n, .int .u64 u, .string s2, .slice va keys2.length vc, .slice ga (cutTrs long left l).1.length gc]) (Fresh w (store6 (wr.setCell ⟨g, 5, none⟩ (.slice ga (cutTrs long left l).1.length gc)) (N + 1) (.int .i64 k) (.int .i64 n) (.int .u64 u) (.string s2) (.slice va keys2.length vc) (.slice ga (cutTrs long left l).1.length gc))) ∧
            Moved (fun q => q = rb) w (store6 (wr.setCell ⟨g, 5, none⟩ (.slice ga (cutTrs long left l).1.length gc)) (N + 1) (.int .i64 k) (.int .i64 n) (.int .u64 u) (.string s2) (.slice va keys2.length vc) (.slice ga (cutTrs long left l).1.length gc)) ∧ (store6 (wr.setCell ⟨g, 5, none⟩ (.slice ga (cutTrs long left l).1.length gc)) (N + 1) (.int .i64 k) (.int .i64 n) (.int .u64 u) (.string s2) (.slice va keys2.length vc) (.slice ga (cutTrs long left l).1.length gc)).heap[rb]? = some (roomR (cutTr long left (.mk k n u s keys l)).2 long)) := by
          show _ ∧ _ ∧ _
          refine ⟨?_, hMW, ?_⟩
          · simp only [cutTr]
            rw [HK2.out, HSS.out]
            exact hfin
          · simp only [cutTr]
            rw [HE.2.1]
            exact hrbW
        clear hT hMW hWW hfin hkvW hrbW hend HE hrow hres hz1 hz2 hz3
        rw [hL] at *
        by_cases hlt : kk < l.length
        · obtain rfl : lf = 0 := by omega
          clear hgo
          go_wp2
          refine bodyPost_ret (v := .agg #[.int .i64 k, .int .i64 n, .int .u64 u, .string s2, .slice va keys2.length vc, .slice ga L.length gc]) (by simp [results, Try.results43, go_sem, z0, z1, z2, z3, z4, z5, hne, hne2]) rfl ?_
          exact ⟨_, rfl, HFIN.out⟩
        · clear hgo
          have hge : ¬ (kk : Int) < l.length := by omega
          go_wp2
          refine bodyPost_ret (v := .agg #[.int .i64 k, .int .i64 n, .int .u64 u, .string s2, .slice va keys2.length vc, .slice ga L.length gc]) (by simp [results, Try.results43, go_sem, z0, z1, z2, z3, z4, z5, hne, hne2]) rfl ?_
          exact ⟨_, rfl, HFIN.out⟩
end Go.Proofs.Ytfbeepkogcmlmaa

/-
  Trees: Cut; comparing lists of strings.
-/
namespace Go.Proofs.Ytfbeepkogcmlmaa
open Go Go.ChangeShapes Go.WideShapes Go.ChangeAt Go.RowKit Go.Joins Go.Deep
set_option linter.unusedVariables false
set_option linter.unusedSimpArgs false

theorem str_eq (x y : ByteArray) : (x.toList == y.toList) = decide (x = y) := by
  rw [Bool.eq_iff_iff, beq_iff_eq, decide_eq_true_eq, ByteArray.toList_eq, ByteArray.toList_eq]
  exact ⟨fun h => bytes_inj h, fun h => by rw [h]⟩
set_option maxRecDepth 100000 in
set_option maxHeartbeats 1000000 in
theorem cut_node_any (nodes long : Nat) (hn1 : 1 ≤ nodes) (hn : nodes ≤ 4096) (hlong : long ≤ 1000) (t : Tr) (v : Value) (w : World) (h : NodeAt w t v) :
    Calls Try.prog 27 #[v, .int .i64 nodes, .int .i64 long] w fun r w' => ∃ v', r = .returned v' ∧ OwnT w' w.heap.size (cutTr long (nodes - 1) t).1 v' (Fresh w w') ∧ Grew w w' := by
  have HNA := Lib.hid h
  obtain ⟨k, n, u, s, a4, n4, c4, a5, n5, c5, rfl⟩ := h.node6
  clear h
  obtain ⟨p, rfl⟩ : ∃ p, nodes = p + 1 := ⟨nodes - 1, by omega⟩
  go_enter Try.func27, Try.ntmps27
  go_wp2_with fail
  have hb2 := heap_alloc_new (w.alloc (.cells #[.int .i64 k, .int .i64 n, .int .u64 u, .string s, .slice a4 n4 c4, .slice a5 n5 c5] 26)) (.cells #[.int .i64 0, .int .i64 0, .int .u64 0, .string ⟨#[]⟩, .slice none 0 0, .slice none 0 0] 26)
  have hg2 := ((Grew.refl w).alloc (.cells #[.int .i64 k, .int .i64 n, .int .u64 u, .string s, .slice a4 n4 c4, .slice a5 n5 c5] 26)).alloc (.cells #[.int .i64 0, .int .i64 0, .int .u64 0, .string ⟨#[]⟩, .slice none 0 0, .slice none 0 0] 26)
  have hs2 : ((w.alloc (.cells #[.int .i64 k, .int .i64 n, .int .u64 u, .string s, .slice a4 n4 c4, .slice a5 n5 c5] 26)).alloc (.cells #[.int .i64 0, .int .i64 0, .int .u64 0, .string ⟨#[]⟩, .slice none 0 0, .slice none 0 0] 26)).heap.size = w.heap.size + 1 + 1 := by rw [World.size_alloc, World.size_alloc]
  rw [World.size_alloc] at hb2
  generalize ((w.alloc (.cells #[.int .i64 k, .int .i64 n, .int .u64 u, .string s, .slice a4 n4 c4, .slice a5 n5 c5] 26)).alloc (.cells #[.int .i64 0, .int .i64 0, .int .u64 0, .string ⟨#[]⟩, .slice none 0 0, .slice none 0 0] 26)) = w2 at *
  have hb3 := heap_alloc_new w2 (.cells #[.int .i64 p, .int .i64 long] 59)
  have hg3 := (Grew.refl w2).alloc (.cells #[.int .i64 p, .int .i64 long] 59)
  have hs3 : (w2.alloc (.cells #[.int .i64 p, .int .i64 long] 59)).heap.size = w2.heap.size + 1 := World.size_alloc _ _
  rw [hs2] at hb3 hs3
  generalize (w2.alloc (.cells #[.int .i64 p, .int .i64 long] 59)) = w3 at *
  have HB2 := Lib.hid (hg3.heap hb2)
  have HG3 := Lib.hid (hg2.trans hg3)
  obtain ⟨N, hN⟩ : ∃ N, w.heap.size = N := ⟨_, rfl⟩
  rw [hN] at hb3 HB2 hs3 ⊢
  have HN := Lib.hid hN
  have HS3 := Lib.hid hs3
  have hroom : w3.heap[N + 1 + 1]? = some (roomR p long) := hb3
  clear hb2 hb3 hg2 hg3 hs2 hs3 hN
  refine (roomcut_any long hlong w (N + 1 + 1) (by have := HN.out; omega) t.size t (Nat.le_refl _) _ _ p (by omega) HNA.out HG3.out hroom).mono ?_
  rintro r w4 ⟨v', rfl, ho, hm, _⟩
  obtain ⟨yk, yn, yu, ys, ya4, yn4, yc4, ya5, yn5, yc5, rfl⟩ := ho.node6
  have hres := hm.heap HB2.out (by omega)
  have r0 := row_frozen hres 0
  have r1 := row_frozen hres 1
  have r2 := row_frozen hres 2
  have r3 := row_frozen hres 3
  have r4 := row_frozen hres 4
  have r5 := row_frozen hres 5
  have z0 := row_cellT hres 0 _ rfl
  have z1 := row_cellT hres 1 _ rfl
  have z2 := row_cellT hres 2 _ rfl
  have z3 := row_cellT hres 3 _ rfl
  have z4 := row_cellT hres 4 _ rfl
  have z5 := row_cellT hres 5 _ rfl
  have hst := moved_store6 w4 (N + 1) (.int .i64 yk) (.int .i64 yn) (.int .u64 yu) (.string ys) (.slice ya4 yn4 yc4) (.slice ya5 yn5 yc5)
  have hGW : Grew w w4 := Moved.fresh HG3.out hm (fun g h => by have := HN.out; omega)
  have hGF : Grew w (store6 w4 (N + 1) (.int .i64 yk) (.int .i64 yn) (.int .u64 yu) (.string ys) (.slice ya4 yn4 yc4) (.slice ya5 yn5 yc5)) := Moved.fresh hGW hst (fun g h => by have := HN.out; omega)
  have hfin := ((ho.kept hst (fun g hg e => by have h1 := HS3.out; have h2 := hg.1; omega)).base (B' := w.heap.size) HG3.out.size).mono (T := Fresh w (store6 w4 (N + 1) (.int .i64 yk) (.int .i64 yn) (.int .u64 yu) (.string ys) (.slice ya4 yn4 yc4) (.slice ya5 yn5 yc5))) (fun g hg => ⟨Nat.le_trans HG3.out.size hg.1, Nat.lt_of_lt_of_le hg.2 hst.size⟩)
  have HFIN := Lib.hid (And.intro hfin hGF)
  clear hst hGW hGF hfin ho hm hres hroom
  go_wp2
  refine bodyPost_ret (v := .agg #[.int .i64 yk, .int .i64 yn, .int .u64 yu, .string ys, .slice ya4 yn4 yc4, .slice ya5 yn5 yc5]) (by simp [results, Try.results27, go_sem, z0, z1, z2, z3, z4, z5]) rfl ?_
  exact ⟨_, rfl, by simpa using HFIN.out.1, HFIN.out.2⟩
set_option maxRecDepth 100000 in
set_option maxHeartbeats 1000000 in
theorem eqtexts_any (a b : List ByteArray) (v u : Value) (w : World) (ha : StrsAt w v a) (hb : StrsAt w u b) :
    Calls Try.prog 32 #[v, u] w fun r w' => r = .returned (.bool (decide (a = b))) ∧ Grew w w' := by
  have HA := Lib.hid ha
  have HB := Lib.hid hb
  obtain ⟨aa, ac, rfl, hla, hac, hz1, hz2⟩ := ha
  obtain ⟨ba, bc, rfl, hlb, hbc, hz3, hz4⟩ := hb
  unfold lenok at hac hbc
  have hal : a.length ≤ 9223372036854775807 := by omega
  have hbl : b.length ≤ 9223372036854775807 := by omega
  clear hz1 hz2 hz3 hz4 hac hbc hla hlb
  by_cases hl : a.length = b.length
  · go_enter Try.func32, Try.ntmps32
    go_wp2_with fail
    have hli : (a.length : Int) = b.length := by omega
    have HL := Lib.hid hl
    clear hli hl
    go_loopw [5] (fun i wr => ∃ k : Nat, k ≤ a.length ∧ i = .int .i64 k ∧ Hid (a.take k = b.take k ∧ Grew w wr)) (fun i _ => a.length - (intOf i).toNat)
    case atStart => exact ⟨0, Nat.zero_le _, rfl, by show _ ∧ _; exact ⟨by simp, Grew.refl _⟩⟩
    case round =>
      obtain ⟨k, hk, rfl, HW⟩ := hrel
      by_cases hlt : k < a.length
      · obtain ⟨x, hx⟩ : ∃ x, a[k]? = some x := ⟨_, List.getElem?_eq_getElem hlt⟩
        have hltb : k < b.length := by have := HL.out; omega
        obtain ⟨y, hy⟩ : ∃ y, b[k]? = some y := ⟨_, List.getElem?_eq_getElem hltb⟩
        obtain ⟨ax, ab, aoff, rfl, hca⟩ : lenok x.size ∧ ∃ b off, aa = some ⟨b, off, none⟩ ∧ w.cell? ⟨b, off + k, none⟩ = some (.string x) := by
          obtain ⟨a', c', e, _, _, _, h⟩ := HA.out
          injection e with e1 e2 e3
          subst e1
          exact h k x hx
        obtain ⟨bx, bb, boff, rfl, hcb⟩ : lenok y.size ∧ ∃ b off, ba = some ⟨b, off, none⟩ ∧ w.cell? ⟨b, off + k, none⟩ = some (.string y) := by
          obtain ⟨a', c', e, _, _, _, h⟩ := HB.out
          injection e with e1 e2 e3
          subst e1
          exact h k y hy
        have c0 := HW.out.2.cell hca
        have c1 := HW.out.2.cell hcb
        have HXY := Lib.hid (And.intro hx hy)
        clear hx hy hca hcb ax bx
        have hlti : (k : Int) < a.length := by omega
        have hltj : (k : Int) < b.length := by omega
        by_cases hxy : x = y
        · subst hxy
          go_wp2_with fail
          go_quiet (fail)
          go_wp2
          go_roundw
          case rel => exact ⟨k + 1, by omega, by go_num, by
            show _ ∧ _
            obtain ⟨h1, h2⟩ := HXY.out
            exact ⟨by rw [List.take_add_one, List.take_add_one, HW.out.1, h1, h2], HW.out.2.drewN _⟩⟩
          case measure => simp [intOf]; omega
        · have hne : Hid (¬ a = b) := fun e => hxy (by
            obtain ⟨h1, h2⟩ := HXY.out
            rw [e, h2] at h1
            injection h1 with h1
            exact h1.symm)
          have hbne : (x.toList == y.toList) = false := by rw [str_eq]; exact decide_eq_false hxy
          clear hxy
          go_wp2_with fail
          go_quiet (fail)
          go_wp2
          go_ret
          exact ⟨by rw [decide_eq_false hne.out]; rfl, HW.out.2.drewN _⟩
      · have ek : k = a.length := by omega
        subst ek
        have heq : Hid (a = b) := by
          show _ = _
          have h := HW.out.1
          rw [List.take_length, HL.out, List.take_length] at h
          exact h
        go_wp2
        go_ret
        exact ⟨by rw [decide_eq_true heq.out]; rfl, HW.out.2⟩
  · have hne : Hid (¬ a = b) := fun e => hl (by rw [e])
    have hb1 : ((a.length : Int) != b.length) = true := by simp; omega
    go_enter Try.func32, Try.ntmps32
    go_wp2
    go_ret
    exact ⟨by rw [decide_eq_false hne.out]; rfl, Grew.refl _⟩
end Go.Proofs.Ytfbeepkogcmlmaa

/-
  Trees: the reference's comparison. Conditions: both nodes lie in memory.
-/
namespace Go.Proofs.Ytfbeepkogcmlmaa
open Go Go.ChangeShapes Go.WideShapes Go.ChangeAt Go.RowKit Go.Joins Go.Deep
set_option linter.unusedVariables false
set_option linter.unusedSimpArgs false

set_option maxRecDepth 100000 in
set_option maxHeartbeats 4000000 in
theorem eqnode_any : ∀ (m : Nat) (t : Tr), t.size ≤ m → ∀ (t2 : Tr) (v v2 : Value) (w : World), NodeAt w t v → NodeAt w t2 v2 →
    Calls Try.prog 12 #[v, v2] w fun r w' => ∃ b, r = .returned (.bool b) ∧ (b = true ↔ t = t2) ∧ Grew w w' := by
  intro m
  induction m with
  | zero => intro t ht; have := t.size_pos; omega
  | succ m ih =>
  intro t ht t2 v v2 w hn hn2
  obtain ⟨k, n, u, s, keys, l⟩ := t
  obtain ⟨k2, n2, u2, s2, keys2, l2⟩ := t2
  simp only [NodeAt] at hn hn2
  obtain ⟨hb, kv, lv, vs, rfl, hks, hrows, hkids⟩ := hn
  obtain ⟨hb2, kv2, lv2, vs2, rfl, hks2, hrows2, hkids2⟩ := hn2
  have hkl := hkids.length
  have hkl2 := hkids2.length
  have HKS := Lib.hid hks
  have HKS2 := Lib.hid hks2
  have HK := Lib.hid hkids
  have HK2 := Lib.hid hkids2
  obtain ⟨a4, c4, rfl, hx1, hx2, hx3, hx4⟩ := hks
  obtain ⟨b4, d4, rfl, hy1, hy2, hy3, hy4⟩ := hks2
  clear hx1 hx2 hx3 hx4 hy1 hy2 hy3 hy4
  have HROWS := Lib.hid hrows
  have HROWS2 := Lib.hid hrows2
  obtain ⟨a5, c5, rfl, hll, hc5, hx3, hx4⟩ := hrows
  obtain ⟨b5, d5, rfl, hll2, hd5, hy3, hy4⟩ := hrows2
  rw [hkl] at HROWS hll ⊢
  rw [hkl2] at HROWS2 hll2 ⊢
  have hlen : l.length ≤ 9223372036854775807 := by unfold lenok at hc5; omega
  have hlen2 : l2.length ≤ 9223372036854775807 := by unfold lenok at hd5; omega
  clear hx3 hx4 hll hy3 hy4 hll2 hc5 hd5 hb hb2 hkl hkl2 hkids hkids2
  have hsz : ∀ x ∈ l, x.size ≤ m := fun x hx => by have := size_mem hx; simp only [Tr.size] at ht; omega
  have HSZ := Lib.hid hsz
  clear hsz ht
  by_cases h0 : k = k2
  rotate_left
  · have hne : Hid (¬ (Tr.mk k n u s keys l = Tr.mk k2 n2 u2 s2 keys2 l2)) := fun e => h0 (by injection e)
    have hB : (k != k2) = true := by simp [h0]
    clear h0
    go_enter Try.func12, Try.ntmps12
    go_wp2_with fail
    go_ret
    exact ⟨false, rfl, ⟨fun h => absurd h (by decide), fun h => absurd h hne.out⟩, ((Grew.refl w).alloc _).alloc _⟩
  by_cases h1 : n = n2
  rotate_left
  · have hne : Hid (¬ (Tr.mk k n u s keys l = Tr.mk k2 n2 u2 s2 keys2 l2)) := fun e => h1 (by injection e)
    have hB : (n != n2) = true := by simp [h1]
    clear h1
    go_enter Try.func12, Try.ntmps12
    go_wp2_with fail
    go_ret
    exact ⟨false, rfl, ⟨fun h => absurd h (by decide), fun h => absurd h hne.out⟩, ((Grew.refl w).alloc _).alloc _⟩
  by_cases h2 : u = u2
  rotate_left
  · have hne : Hid (¬ (Tr.mk k n u s keys l = Tr.mk k2 n2 u2 s2 keys2 l2)) := fun e => h2 (by injection e)
    have hB : (u != u2) = true := by simp [h2]
    clear h2
    go_enter Try.func12, Try.ntmps12
    go_wp2_with fail
    go_ret
    exact ⟨false, rfl, ⟨fun h => absurd h (by decide), fun h => absurd h hne.out⟩, ((Grew.refl w).alloc _).alloc _⟩
  by_cases h3 : s = s2
  rotate_left
  · have hne : Hid (¬ (Tr.mk k n u s keys l = Tr.mk k2 n2 u2 s2 keys2 l2)) := fun e => h3 (by injection e)
    have hB : (s.toList == s2.toList) = false := by rw [str_eq]; exact decide_eq_false h3
    clear h3
    go_enter Try.func12, Try.ntmps12
    go_wp2_with fail
    go_ret
    exact ⟨false, rfl, ⟨fun h => absurd h (by decide), fun h => absurd h hne.out⟩, ((Grew.refl w).alloc _).alloc _⟩
  subst h0 h1 h2 h3
  by_cases h4 : keys = keys2
  rotate_left
  · have hne : Hid (¬ (Tr.mk k n u s keys l = Tr.mk k n u s keys2 l2)) := fun e => h4 (by injection e)
    have hB : decide (keys = keys2) = false := decide_eq_false h4
    clear h4
    go_enter Try.func12, Try.ntmps12
    go_wp2_with fail
    refine (eqtexts_any keys keys2 _ _ _ (HKS.out.grew (((Grew.refl w).alloc _).alloc _)) (HKS2.out.grew (((Grew.refl w).alloc _).alloc _))).mono ?_
    rw [hB]
    rintro r w3 ⟨rfl, hg3⟩
    have HG3 := Lib.hid hg3
    clear hg3 hB
    go_wp2_with fail
    go_ret
    exact ⟨false, rfl, ⟨fun h => absurd h (by decide), fun h => absurd h hne.out⟩, (((Grew.refl w).alloc _).alloc _).trans HG3.out⟩
  subst h4
  go_enter Try.func12, Try.ntmps12
  go_wp2_with fail
  refine (eqtexts_any keys keys _ _ _ (HKS.out.grew (((Grew.refl w).alloc _).alloc _)) (HKS2.out.grew (((Grew.refl w).alloc _).alloc _))).mono ?_
  rw [decide_eq_true (rfl : keys = keys)]
  rintro r w3 ⟨rfl, hg3⟩
  have hb1 := heap_alloc_new w (.cells #[.int .i64 k, .int .i64 n, .int .u64 u, .string s, .slice a4 keys.length c4, .slice a5 l.length c5] 26)
  have hb2 := heap_alloc_new (w.alloc (.cells #[.int .i64 k, .int .i64 n, .int .u64 u, .string s, .slice a4 keys.length c4, .slice a5 l.length c5] 26)) (.cells #[.int .i64 k, .int .i64 n, .int .u64 u, .string s, .slice b4 keys.length d4, .slice b5 l2.length d5] 26)
  replace hb1 := hg3.heap (((Grew.refl (w.alloc (.cells #[.int .i64 k, .int .i64 n, .int .u64 u, .string s, .slice a4 keys.length c4, .slice a5 l.length c5] 26))).alloc (.cells #[.int .i64 k, .int .i64 n, .int .u64 u, .string s, .slice b4 keys.length d4, .slice b5 l2.length d5] 26)).heap hb1)
  replace hb2 := hg3.heap hb2
  rw [World.size_alloc] at hb2
  have HB1 := Lib.hid hb1
  have HB2 := Lib.hid hb2
  have HG := Lib.hid ((((Grew.refl w).alloc (.cells #[.int .i64 k, .int .i64 n, .int .u64 u, .string s, .slice a4 keys.length c4, .slice a5 l.length c5] 26)).alloc (.cells #[.int .i64 k, .int .i64 n, .int .u64 u, .string s, .slice b4 keys.length d4, .slice b5 l2.length d5] 26)).trans hg3)
  have c5' := row_cellT hb1 5 _ rfl
  have e5 := row_cellT hb2 5 _ rfl
  obtain ⟨N, hN⟩ : ∃ N, w.heap.size = N := ⟨_, rfl⟩
  rw [hN] at c5' e5 HB1 HB2 ⊢
  clear hb1 hb2 hg3 hN
  by_cases h5 : l.length = l2.length
  rotate_left
  · have hne : Hid (¬ (Tr.mk k n u s keys l = Tr.mk k n u s keys l2)) := fun e => h5 (by injection e with _ _ _ _ _ e; rw [e])
    have hB : ((l.length : Int) != l2.length) = true := by simp; omega
    go_wp2_with fail
    go_ret
    exact ⟨false, rfl, ⟨fun h => absurd h (by decide), fun h => absurd h hne.out⟩, HG.out⟩
  have HL := Lib.hid h5
  have hB : ((l.length : Int) != l2.length) = false := by rw [h5]; simp
  clear h5
  go_wp2_with fail
  clear hB
  go_loopw [5] (fun i wr => ∃ kk : Nat, kk ≤ l.length ∧ i = .int .i64 kk ∧ Hid (l.take kk = l2.take kk ∧ Grew w3 wr)) (fun i _ => l.length - (intOf i).toNat)
  case atStart => exact ⟨0, Nat.zero_le _, rfl, by show _ ∧ _; exact ⟨by simp, Grew.refl _⟩⟩
  case round =>
    obtain ⟨kk, hkk, rfl, HW⟩ := hrel
    replace c5' := HW.out.2.cell c5'
    by_cases hlt : kk < l.length
    · have hlt2 : kk < l2.length := by have := HL.out; omega
      obtain ⟨x, hx⟩ : ∃ x, l[kk]? = some x := ⟨_, List.getElem?_eq_getElem hlt⟩
      obtain ⟨y', hy'⟩ : ∃ y, l2[kk]? = some y := ⟨_, List.getElem?_eq_getElem hlt2⟩
      obtain ⟨xv, hxv, hnx⟩ := HK.out.get hx
      obtain ⟨yv, hyv, hny⟩ := HK2.out.get hy'
      have hxs := HSZ.out x (List.mem_of_getElem? hx)
      obtain ⟨b, off, rfl, hc6⟩ : ∃ b off, a5 = some ⟨b, off, none⟩ ∧ Cells6 wr b (off + kk * 6) xv := by
        obtain ⟨a, c, e, _, _, _, h⟩ := HROWS.out
        injection e with e1 e2 e3
        subst e1
        obtain ⟨b, off, e, h6⟩ := h kk xv hxv
        exact ⟨b, off, e, h6.grew (HG.out.trans HW.out.2)⟩
      obtain ⟨b', off', rfl, hd6⟩ : ∃ b off, b5 = some ⟨b, off, none⟩ ∧ Cells6 wr b (off + kk * 6) yv := by
        obtain ⟨a, c, e, _, _, _, h⟩ := HROWS2.out
        injection e with e1 e2 e3
        subst e1
        obtain ⟨b, off, e, h6⟩ := h kk yv hyv
        exact ⟨b, off, e, h6.grew (HG.out.trans HW.out.2)⟩
      obtain ⟨xk, xn, xu, xs, xa4, xn4, xc4, xa5, xn5, xc5, rfl⟩ := hnx.node6
      obtain ⟨yk, yn, yu, ys, ya4, yn4, yc4, ya5, yn5, yc5, rfl⟩ := hny.node6
      obtain ⟨p0, p1, p2, p3, p4, p5⟩ := hc6.get
      obtain ⟨q0, q1, q2, q3, q4, q5⟩ := hd6.get
      replace e5 := HW.out.2.cell e5
      have HNX := Lib.hid hnx
      have HNY := Lib.hid hny
      have HXY := Lib.hid (And.intro hx hy')
      clear hc6 hd6 hx hy' hxv hyv hnx hny
      have hlti : (kk : Int) < l.length := by omega
      have hltj : (kk : Int) < l2.length := by omega
      go_wp2_with fail
      by_cases hxy : x = y'
      · have HEQ := Lib.hid hxy
        clear hxy
        refine wp_region_tables Grew [[], [0], [], [1, 2], [3], [], [5], [], [6, 7], [8], [4, 9], [10]] [[(58, 2), (59, 3), (60, 4), (61, 5), (62, 6), (63, 7), (64, 8), (65, 9), (66, 10), (67, 11)], [(56, 0), (58, 2), (60, 4), (61, 5), (62, 6), (63, 7), (64, 8), (65, 9), (66, 10), (67, 11)], [(56, 0), (57, 1), (60, 4), (61, 5), (62, 6), (63, 7), (64, 8), (65, 9), (66, 10), (67, 11)], [(56, 0), (57, 1), (58, 2), (61, 5), (62, 6), (63, 7), (64, 8), (65, 9), (66, 10), (67, 11)], [(56, 0), (57, 1), (58, 2), (59, 3), (61, 5), (62, 6), (63, 7), (64, 8), (65, 9), (67, 11)], [(56, 0), (57, 1), (58, 2), (59, 3), (60, 4), (63, 7), (64, 8), (65, 9), (66, 10), (67, 11)], [(56, 0), (57, 1), (58, 2), (59, 3), (60, 4), (61, 5), (63, 7), (65, 9), (66, 10), (67, 11)], [(56, 0), (57, 1), (58, 2), (59, 3), (60, 4), (61, 5), (62, 6), (65, 9), (66, 10), (67, 11)], [(56, 0), (57, 1), (58, 2), (59, 3), (60, 4), (61, 5), (62, 6), (63, 7), (66, 10), (67, 11)], [(56, 0), (57, 1), (58, 2), (59, 3), (60, 4), (61, 5), (62, 6), (63, 7), (64, 8), (67, 11)], [(56, 0), (57, 1), (58, 2), (59, 3), (60, 4), (61, 5), (62, 6), (63, 7), (64, 8), (65, 9)], [(56, 0), (57, 1), (58, 2), (59, 3), (60, 4), (61, 5), (62, 6), (63, 7), (64, 8), (65, 9), (66, 10)]] [(56, 0), (57, 1), (58, 2), (59, 3), (60, 4), (61, 5), (62, 6), (63, 7), (64, 8), (65, 9), (66, 10), (67, 11)]
          [Is (.pointer (some ⟨N, 5, none⟩)), Is (.slice (some ⟨b, off, none⟩) l.length c5), Is (.int .i64 kk), Is (.pointer (some ⟨b, off + kk * 6, none⟩)), Is (.agg #[.int .i64 xk, .int .i64 xn, .int .u64 xu, .string xs, .slice xa4 xn4 xc4, .slice xa5 xn5 xc5]), Is (.pointer (some ⟨N + 1, 5, none⟩)), Is (.slice (some ⟨b', off', none⟩) l2.length d5), Is (.int .i64 kk), Is (.pointer (some ⟨b', off' + kk * 6, none⟩)), Is (.agg #[.int .i64 yk, .int .i64 yn, .int .u64 yu, .string ys, .slice ya4 yn4 yc4, .slice ya5 yn5 yc5]), Is (.bool true), Is (.bool false)]
          (by kernel_rfl) Grew.trans Grew.refl (Grew.refl _).drew (by kernel_rfl) ⟨is_st, is_st, is_st, is_st, is_st, is_st, is_st, is_st, is_st, is_st, is_st, is_st, trivial⟩ ⟨?_, ?_, ?_, ?_, ?_, ?_, ?_, ?_, ?_, ?_, ?_, ?_, trivial⟩ rfl ?_
        · intro y w2' hG hD K hK
          simp only [fillL, Act.put, List.setIfInBounds_toArray, List.set_cons_zero, List.set_cons_succ, List.getD_cons_zero, List.getD_cons_succ, Is] at hK ⊢
          refine ite_yes (by rfl) ?_
          go_simp
          exact hK _ _ _ rfl (Grew.refl _) rfl
        · intro y w2' hG hD K hK
          simp only [depsH, List.getD_cons_zero, List.getD_cons_succ, Is, and_true] at hD
          have h0 := hD
          clear hD
          have dc5' := hG.cell c5'
          have de5 := hG.cell e5
          have dp0 := hG.cell p0
          have dp1 := hG.cell p1
          have dp2 := hG.cell p2
          have dp3 := hG.cell p3
          have dp4 := hG.cell p4
          have dp5 := hG.cell p5
          have dq0 := hG.cell q0
          have dq1 := hG.cell q1
          have dq2 := hG.cell q2
          have dq3 := hG.cell q3
          have dq4 := hG.cell q4
          have dq5 := hG.cell q5
          simp only [fillL, Act.put, List.setIfInBounds_toArray, List.set_cons_zero, List.set_cons_succ, List.getD_cons_zero, List.getD_cons_succ, Is] at hK ⊢
          rw [h0] at hK ⊢
          clear h0
          refine ite_yes (by rfl) ?_
          go_simp
          exact hK _ _ _ rfl (Grew.refl _) rfl
        · intro y w2' hG hD K hK
          simp only [fillL, Act.put, List.setIfInBounds_toArray, List.set_cons_zero, List.set_cons_succ, List.getD_cons_zero, List.getD_cons_succ, Is] at hK ⊢
          refine ite_yes (by rfl) ?_
          go_simp
          exact hK _ _ _ rfl (Grew.refl _) rfl
        · intro y w2' hG hD K hK
          simp only [depsH, List.getD_cons_zero, List.getD_cons_succ, Is, and_true] at hD
          have h1 := hD.1
          have h2 := hD.2
          clear hD
          simp only [fillL, Act.put, List.setIfInBounds_toArray, List.set_cons_zero, List.set_cons_succ, List.getD_cons_zero, List.getD_cons_succ, Is] at hK ⊢
          rw [h1, h2] at hK ⊢
          clear h1 h2
          refine ite_yes (by rfl) ?_
          go_simp
          exact hK _ _ _ rfl (Grew.refl _) rfl
        · intro y w2' hG hD K hK
          simp only [depsH, List.getD_cons_zero, List.getD_cons_succ, Is, and_true] at hD
          have h3 := hD
          clear hD
          have dc5' := hG.cell c5'
          have de5 := hG.cell e5
          have dp0 := hG.cell p0
          have dp1 := hG.cell p1
          have dp2 := hG.cell p2
          have dp3 := hG.cell p3
          have dp4 := hG.cell p4
          have dp5 := hG.cell p5
          have dq0 := hG.cell q0
          have dq1 := hG.cell q1
          have dq2 := hG.cell q2
          have dq3 := hG.cell q3
          have dq4 := hG.cell q4
          have dq5 := hG.cell q5
          simp only [fillL, Act.put, List.setIfInBounds_toArray, List.set_cons_zero, List.set_cons_succ, List.getD_cons_zero, List.getD_cons_succ, Is] at hK ⊢
          rw [h3] at hK ⊢
          clear h3
          refine ite_yes (by rfl) ?_
          go_simp
          exact hK _ _ _ rfl (Grew.refl _) rfl
        · intro y w2' hG hD K hK
          simp only [fillL, Act.put, List.setIfInBounds_toArray, List.set_cons_zero, List.set_cons_succ, List.getD_cons_zero, List.getD_cons_succ, Is] at hK ⊢
          refine ite_yes (by rfl) ?_
          go_simp
          exact hK _ _ _ rfl (Grew.refl _) rfl
        · intro y w2' hG hD K hK
          simp only [depsH, List.getD_cons_zero, List.getD_cons_succ, Is, and_true] at hD
          have h5 := hD
          clear hD
          have dc5' := hG.cell c5'
          have de5 := hG.cell e5
          have dp0 := hG.cell p0
          have dp1 := hG.cell p1
          have dp2 := hG.cell p2
          have dp3 := hG.cell p3
          have dp4 := hG.cell p4
          have dp5 := hG.cell p5
          have dq0 := hG.cell q0
          have dq1 := hG.cell q1
          have dq2 := hG.cell q2
          have dq3 := hG.cell q3
          have dq4 := hG.cell q4
          have dq5 := hG.cell q5
          simp only [fillL, Act.put, List.setIfInBounds_toArray, List.set_cons_zero, List.set_cons_succ, List.getD_cons_zero, List.getD_cons_succ, Is] at hK ⊢
          rw [h5] at hK ⊢
          clear h5
          refine ite_yes (by rfl) ?_
          go_simp
          exact hK _ _ _ rfl (Grew.refl _) rfl
        · intro y w2' hG hD K hK
          simp only [fillL, Act.put, List.setIfInBounds_toArray, List.set_cons_zero, List.set_cons_succ, List.getD_cons_zero, List.getD_cons_succ, Is] at hK ⊢
          refine ite_yes (by rfl) ?_
          go_simp
          exact hK _ _ _ rfl (Grew.refl _) rfl
        · intro y w2' hG hD K hK
          simp only [depsH, List.getD_cons_zero, List.getD_cons_succ, Is, and_true] at hD
          have h6 := hD.1
          have h7 := hD.2
          clear hD
          simp only [fillL, Act.put, List.setIfInBounds_toArray, List.set_cons_zero, List.set_cons_succ, List.getD_cons_zero, List.getD_cons_succ, Is] at hK ⊢
          rw [h6, h7] at hK ⊢
          clear h6 h7
          refine ite_yes (by rfl) ?_
          go_simp
          exact hK _ _ _ rfl (Grew.refl _) rfl
        · intro y w2' hG hD K hK
          simp only [depsH, List.getD_cons_zero, List.getD_cons_succ, Is, and_true] at hD
          have h8 := hD
          clear hD
          have dc5' := hG.cell c5'
          have de5 := hG.cell e5
          have dp0 := hG.cell p0
          have dp1 := hG.cell p1
          have dp2 := hG.cell p2
          have dp3 := hG.cell p3
          have dp4 := hG.cell p4
          have dp5 := hG.cell p5
          have dq0 := hG.cell q0
          have dq1 := hG.cell q1
          have dq2 := hG.cell q2
          have dq3 := hG.cell q3
          have dq4 := hG.cell q4
          have dq5 := hG.cell q5
          simp only [fillL, Act.put, List.setIfInBounds_toArray, List.set_cons_zero, List.set_cons_succ, List.getD_cons_zero, List.getD_cons_succ, Is] at hK ⊢
          rw [h8] at hK ⊢
          clear h8
          refine ite_yes (by rfl) ?_
          go_simp
          exact hK _ _ _ rfl (Grew.refl _) rfl
        · intro y w2' hG hD K hK
          simp only [depsH, List.getD_cons_zero, List.getD_cons_succ, Is, and_true] at hD
          have h4 := hD.1
          have h9 := hD.2
          clear hD
          simp only [fillL, Act.put, List.setIfInBounds_toArray, List.set_cons_zero, List.set_cons_succ, List.getD_cons_zero, List.getD_cons_succ, Is] at hK ⊢
          rw [h4, h9] at hK ⊢
          clear h4 h9
          refine ite_yes (by rfl) ?_
          go_simp
          refine (ih x hxs y' _ _ _ (HNX.out.grew (HG.out.trans (HW.out.2.trans hG))) (HNY.out.grew (HG.out.trans (HW.out.2.trans hG)))).mono ?_
          rintro r w4 ⟨bb, rfl, hbb, hg⟩
          obtain rfl : bb = true := hbb.2 HEQ.out
          exact hK _ _ _ rfl hg rfl
        · intro y w2' hG hD K hK
          simp only [depsH, List.getD_cons_zero, List.getD_cons_succ, Is, and_true] at hD
          have h10 := hD
          clear hD
          simp only [fillL, Act.put, List.setIfInBounds_toArray, List.set_cons_zero, List.set_cons_succ, List.getD_cons_zero, List.getD_cons_succ, Is] at hK ⊢
          rw [h10] at hK ⊢
          clear h10
          refine ite_yes (by rfl) ?_
          go_simp
          exact hK _ _ _ rfl (Grew.refl _) rfl
        · intro y w2' hG hF
          simp only [factsH, Is, and_true, Nat.reduceAdd] at hF
          have h0 := hF.1
          have h1 := hF.2.1
          have h2 := hF.2.2.1
          have h3 := hF.2.2.2.1
          have h4 := hF.2.2.2.2.1
          have h5 := hF.2.2.2.2.2.1
          have h6 := hF.2.2.2.2.2.2.1
          have h7 := hF.2.2.2.2.2.2.2.1
          have h8 := hF.2.2.2.2.2.2.2.2.1
          have h9 := hF.2.2.2.2.2.2.2.2.2.1
          have h10 := hF.2.2.2.2.2.2.2.2.2.2.1
          have h11 := hF.2.2.2.2.2.2.2.2.2.2.2
          clear hF
          simp only [fillL, Act.put, List.setIfInBounds_toArray, List.set_cons_zero, List.set_cons_succ, List.getD_cons_zero, List.getD_cons_succ, Is]
          rw [h0, h1, h2, h3, h4, h5, h6, h7, h8, h9, h10, h11]
          clear h0 h1 h2 h3 h4 h5 h6 h7 h8 h9 h10 h11
          have HGW := Lib.hid (HW.out.2.trans hG)
          clear hG
          go_wp2_with fail
          go_roundw
          case rel => exact ⟨kk + 1, by omega, by go_num, by
            show _ ∧ _
            obtain ⟨h1, h2⟩ := HXY.out
            exact ⟨by rw [List.take_add_one, List.take_add_one, HW.out.1, h1, h2, HEQ.out], HGW.out⟩⟩
          case measure => simp [intOf]; omega
      · have HEQ := Lib.hid hxy
        clear hxy
        refine wp_region_tables Grew [[], [0], [], [1, 2], [3], [], [5], [], [6, 7], [8], [4, 9], [10]] [[(58, 2), (59, 3), (60, 4), (61, 5), (62, 6), (63, 7), (64, 8), (65, 9), (66, 10), (67, 11)], [(56, 0), (58, 2), (60, 4), (61, 5), (62, 6), (63, 7), (64, 8), (65, 9), (66, 10), (67, 11)], [(56, 0), (57, 1), (60, 4), (61, 5), (62, 6), (63, 7), (64, 8), (65, 9), (66, 10), (67, 11)], [(56, 0), (57, 1), (58, 2), (61, 5), (62, 6), (63, 7), (64, 8), (65, 9), (66, 10), (67, 11)], [(56, 0), (57, 1), (58, 2), (59, 3), (61, 5), (62, 6), (63, 7), (64, 8), (65, 9), (67, 11)], [(56, 0), (57, 1), (58, 2), (59, 3), (60, 4), (63, 7), (64, 8), (65, 9), (66, 10), (67, 11)], [(56, 0), (57, 1), (58, 2), (59, 3), (60, 4), (61, 5), (63, 7), (65, 9), (66, 10), (67, 11)], [(56, 0), (57, 1), (58, 2), (59, 3), (60, 4), (61, 5), (62, 6), (65, 9), (66, 10), (67, 11)], [(56, 0), (57, 1), (58, 2), (59, 3), (60, 4), (61, 5), (62, 6), (63, 7), (66, 10), (67, 11)], [(56, 0), (57, 1), (58, 2), (59, 3), (60, 4), (61, 5), (62, 6), (63, 7), (64, 8), (67, 11)], [(56, 0), (57, 1), (58, 2), (59, 3), (60, 4), (61, 5), (62, 6), (63, 7), (64, 8), (65, 9)], [(56, 0), (57, 1), (58, 2), (59, 3), (60, 4), (61, 5), (62, 6), (63, 7), (64, 8), (65, 9), (66, 10)]] [(56, 0), (57, 1), (58, 2), (59, 3), (60, 4), (61, 5), (62, 6), (63, 7), (64, 8), (65, 9), (66, 10), (67, 11)]
          [Is (.pointer (some ⟨N, 5, none⟩)), Is (.slice (some ⟨b, off, none⟩) l.length c5), Is (.int .i64 kk), Is (.pointer (some ⟨b, off + kk * 6, none⟩)), Is (.agg #[.int .i64 xk, .int .i64 xn, .int .u64 xu, .string xs, .slice xa4 xn4 xc4, .slice xa5 xn5 xc5]), Is (.pointer (some ⟨N + 1, 5, none⟩)), Is (.slice (some ⟨b', off', none⟩) l2.length d5), Is (.int .i64 kk), Is (.pointer (some ⟨b', off' + kk * 6, none⟩)), Is (.agg #[.int .i64 yk, .int .i64 yn, .int .u64 yu, .string ys, .slice ya4 yn4 yc4, .slice ya5 yn5 yc5]), Is (.bool false), Is (.bool true)]
          (by kernel_rfl) Grew.trans Grew.refl (Grew.refl _).drew (by kernel_rfl) ⟨is_st, is_st, is_st, is_st, is_st, is_st, is_st, is_st, is_st, is_st, is_st, is_st, trivial⟩ ⟨?_, ?_, ?_, ?_, ?_, ?_, ?_, ?_, ?_, ?_, ?_, ?_, trivial⟩ rfl ?_
        · intro y w2' hG hD K hK
          simp only [fillL, Act.put, List.setIfInBounds_toArray, List.set_cons_zero, List.set_cons_succ, List.getD_cons_zero, List.getD_cons_succ, Is] at hK ⊢
          refine ite_yes (by rfl) ?_
          go_simp
          exact hK _ _ _ rfl (Grew.refl _) rfl
        · intro y w2' hG hD K hK
          simp only [depsH, List.getD_cons_zero, List.getD_cons_succ, Is, and_true] at hD
          have h0 := hD
          clear hD
          have dc5' := hG.cell c5'
          have de5 := hG.cell e5
          have dp0 := hG.cell p0
          have dp1 := hG.cell p1
          have dp2 := hG.cell p2
          have dp3 := hG.cell p3
          have dp4 := hG.cell p4
          have dp5 := hG.cell p5
          have dq0 := hG.cell q0
          have dq1 := hG.cell q1
          have dq2 := hG.cell q2
          have dq3 := hG.cell q3
          have dq4 := hG.cell q4
          have dq5 := hG.cell q5
          simp only [fillL, Act.put, List.setIfInBounds_toArray, List.set_cons_zero, List.set_cons_succ, List.getD_cons_zero, List.getD_cons_succ, Is] at hK ⊢
          rw [h0] at hK ⊢
          clear h0
          refine ite_yes (by rfl) ?_
          go_simp
          exact hK _ _ _ rfl (Grew.refl _) rfl
        · intro y w2' hG hD K hK
          simp only [fillL, Act.put, List.setIfInBounds_toArray, List.set_cons_zero, List.set_cons_succ, List.getD_cons_zero, List.getD_cons_succ, Is] at hK ⊢
          refine ite_yes (by rfl) ?_
          go_simp
          exact hK _ _ _ rfl (Grew.refl _) rfl
        · intro y w2' hG hD K hK
          simp only [depsH, List.getD_cons_zero, List.getD_cons_succ, Is, and_true] at hD
          have h1 := hD.1
          have h2 := hD.2
          clear hD
          simp only [fillL, Act.put, List.setIfInBounds_toArray, List.set_cons_zero, List.set_cons_succ, List.getD_cons_zero, List.getD_cons_succ, Is] at hK ⊢
          rw [h1, h2] at hK ⊢
          clear h1 h2
          refine ite_yes (by rfl) ?_
          go_simp
          exact hK _ _ _ rfl (Grew.refl _) rfl
        · intro y w2' hG hD K hK
          simp only [depsH, List.getD_cons_zero, List.getD_cons_succ, Is, and_true] at hD
          have h3 := hD
          clear hD
          have dc5' := hG.cell c5'
          have de5 := hG.cell e5
          have dp0 := hG.cell p0
          have dp1 := hG.cell p1
          have dp2 := hG.cell p2
          have dp3 := hG.cell p3
          have dp4 := hG.cell p4
          have dp5 := hG.cell p5
          have dq0 := hG.cell q0
          have dq1 := hG.cell q1
          have dq2 := hG.cell q2
          have dq3 := hG.cell q3
          have dq4 := hG.cell q4
          have dq5 := hG.cell q5
          simp only [fillL, Act.put, List.setIfInBounds_toArray, List.set_cons_zero, List.set_cons_succ, List.getD_cons_zero, List.getD_cons_succ, Is] at hK ⊢
          rw [h3] at hK ⊢
          clear h3
          refine ite_yes (by rfl) ?_
          go_simp
          exact hK _ _ _ rfl (Grew.refl _) rfl
        · intro y w2' hG hD K hK
          simp only [fillL, Act.put, List.setIfInBounds_toArray, List.set_cons_zero, List.set_cons_succ, List.getD_cons_zero, List.getD_cons_succ, Is] at hK ⊢
          refine ite_yes (by rfl) ?_
          go_simp
          exact hK _ _ _ rfl (Grew.refl _) rfl
        · intro y w2' hG hD K hK
          simp only [depsH, List.getD_cons_zero, List.getD_cons_succ, Is, and_true] at hD
          have h5 := hD
          clear hD
          have dc5' := hG.cell c5'
          have de5 := hG.cell e5
          have dp0 := hG.cell p0
          have dp1 := hG.cell p1
          have dp2 := hG.cell p2
          have dp3 := hG.cell p3
          have dp4 := hG.cell p4
          have dp5 := hG.cell p5
          have dq0 := hG.cell q0
          have dq1 := hG.cell q1
          have dq2 := hG.cell q2
          have dq3 := hG.cell q3
          have dq4 := hG.cell q4
          have dq5 := hG.cell q5
          simp only [fillL, Act.put, List.setIfInBounds_toArray, List.set_cons_zero, List.set_cons_succ, List.getD_cons_zero, List.getD_cons_succ, Is] at hK ⊢
          rw [h5] at hK ⊢
          clear h5
          refine ite_yes (by rfl) ?_
          go_simp
          exact hK _ _ _ rfl (Grew.refl _) rfl
        · intro y w2' hG hD K hK
          simp only [fillL, Act.put, List.setIfInBounds_toArray, List.set_cons_zero, List.set_cons_succ, List.getD_cons_zero, List.getD_cons_succ, Is] at hK ⊢
          refine ite_yes (by rfl) ?_
          go_simp
          exact hK _ _ _ rfl (Grew.refl _) rfl
        · intro y w2' hG hD K hK
          simp only [depsH, List.getD_cons_zero, List.getD_cons_succ, Is, and_true] at hD
          have h6 := hD.1
          have h7 := hD.2
          clear hD
          simp only [fillL, Act.put, List.setIfInBounds_toArray, List.set_cons_zero, List.set_cons_succ, List.getD_cons_zero, List.getD_cons_succ, Is] at hK ⊢
          rw [h6, h7] at hK ⊢
          clear h6 h7
          refine ite_yes (by rfl) ?_
          go_simp
          exact hK _ _ _ rfl (Grew.refl _) rfl
        · intro y w2' hG hD K hK
          simp only [depsH, List.getD_cons_zero, List.getD_cons_succ, Is, and_true] at hD
          have h8 := hD
          clear hD
          have dc5' := hG.cell c5'
          have de5 := hG.cell e5
          have dp0 := hG.cell p0
          have dp1 := hG.cell p1
          have dp2 := hG.cell p2
          have dp3 := hG.cell p3
          have dp4 := hG.cell p4
          have dp5 := hG.cell p5
          have dq0 := hG.cell q0
          have dq1 := hG.cell q1
          have dq2 := hG.cell q2
          have dq3 := hG.cell q3
          have dq4 := hG.cell q4
          have dq5 := hG.cell q5
          simp only [fillL, Act.put, List.setIfInBounds_toArray, List.set_cons_zero, List.set_cons_succ, List.getD_cons_zero, List.getD_cons_succ, Is] at hK ⊢
          rw [h8] at hK ⊢
          clear h8
          refine ite_yes (by rfl) ?_
          go_simp
          exact hK _ _ _ rfl (Grew.refl _) rfl
        · intro y w2' hG hD K hK
          simp only [depsH, List.getD_cons_zero, List.getD_cons_succ, Is, and_true] at hD
          have h4 := hD.1
          have h9 := hD.2
          clear hD
          simp only [fillL, Act.put, List.setIfInBounds_toArray, List.set_cons_zero, List.set_cons_succ, List.getD_cons_zero, List.getD_cons_succ, Is] at hK ⊢
          rw [h4, h9] at hK ⊢
          clear h4 h9
          refine ite_yes (by rfl) ?_
          go_simp
          refine (ih x hxs y' _ _ _ (HNX.out.grew (HG.out.trans (HW.out.2.trans hG))) (HNY.out.grew (HG.out.trans (HW.out.2.trans hG)))).mono ?_
          rintro r w4 ⟨bb, rfl, hbb, hg⟩
          obtain rfl : bb = false := by cases bb; rfl; exact absurd (hbb.1 rfl) HEQ.out
          exact hK _ _ _ rfl hg rfl
        · intro y w2' hG hD K hK
          simp only [depsH, List.getD_cons_zero, List.getD_cons_succ, Is, and_true] at hD
          have h10 := hD
          clear hD
          simp only [fillL, Act.put, List.setIfInBounds_toArray, List.set_cons_zero, List.set_cons_succ, List.getD_cons_zero, List.getD_cons_succ, Is] at hK ⊢
          rw [h10] at hK ⊢
          clear h10
          refine ite_yes (by rfl) ?_
          go_simp
          exact hK _ _ _ rfl (Grew.refl _) rfl
        · intro y w2' hG hF
          simp only [factsH, Is, and_true, Nat.reduceAdd] at hF
          have h0 := hF.1
          have h1 := hF.2.1
          have h2 := hF.2.2.1
          have h3 := hF.2.2.2.1
          have h4 := hF.2.2.2.2.1
          have h5 := hF.2.2.2.2.2.1
          have h6 := hF.2.2.2.2.2.2.1
          have h7 := hF.2.2.2.2.2.2.2.1
          have h8 := hF.2.2.2.2.2.2.2.2.1
          have h9 := hF.2.2.2.2.2.2.2.2.2.1
          have h10 := hF.2.2.2.2.2.2.2.2.2.2.1
          have h11 := hF.2.2.2.2.2.2.2.2.2.2.2
          clear hF
          simp only [fillL, Act.put, List.setIfInBounds_toArray, List.set_cons_zero, List.set_cons_succ, List.getD_cons_zero, List.getD_cons_succ, Is]
          rw [h0, h1, h2, h3, h4, h5, h6, h7, h8, h9, h10, h11]
          clear h0 h1 h2 h3 h4 h5 h6 h7 h8 h9 h10 h11
          have HGW := Lib.hid (HW.out.2.trans hG)
          clear hG
          have hne : Hid (¬ (Tr.mk k n u s keys l = Tr.mk k n u s keys l2)) := fun e => HEQ.out (by
            injection e with _ _ _ _ _ e
            obtain ⟨h1, h2⟩ := HXY.out
            rw [e, h2] at h1
            injection h1 with h1
            exact h1.symm)
          go_wp2_with fail
          go_ret
          exact ⟨false, rfl, ⟨fun h => absurd h (by decide), fun h => absurd h hne.out⟩, HG.out.trans HGW.out⟩
    · have ek : kk = l.length := by omega
      subst ek
      have heq : Hid (l = l2) := by
        show _ = _
        have h := HW.out.1
        rw [List.take_length, HL.out, List.take_length] at h
        exact h
      go_wp2_with fail
      go_ret
      exact ⟨true, rfl, ⟨fun _ => by rw [heq.out], fun _ => rfl⟩, HG.out.trans HW.out.2⟩
end Go.Proofs.Ytfbeepkogcmlmaa

/-
  Trees: the program's copies (slices.Clone of strings, tree.Copy). Conditions: the node lies in memory; rows of at most 4096.
-/
namespace Go.Proofs.Ytfbeepkogcmlmaa
open Go Go.ChangeShapes Go.WideShapes Go.ChangeAt Go.RowKit Go.Joins Go.Deep
set_option linter.unusedVariables false
set_option linter.unusedSimpArgs false

theorem OwnS.empty (w : World) : OwnS (w.alloc (.cells #[] 9)) w.heap.size (.slice (some ⟨w.heap.size, 0, none⟩) 0 0) [] := World.ownsRow_made w #[] 0 (Nat.le_refl _) (by decide) rfl
set_option maxRecDepth 100000 in
theorem clone_any (w : World) (v : Value) (l : List ByteArray) (h : StrsAt w v l) (hl : l.length ≤ 1099511627776) :
    Calls Try.prog 62 #[v] w fun r w' => ∃ v', r = .returned v' ∧ OwnS w' w.heap.size v' l ∧ Grew w w' := by
  have HX := Lib.hid h
  obtain ⟨a, c, rfl, _, _, hnil, hcell⟩ := h
  cases a with
  | none =>
    obtain rfl := hnil rfl
    have h0 : l = [] := by
      cases l with
      | nil => rfl
      | cons y r => obtain ⟨_, b, off, e, _⟩ := hcell 0 y rfl; cases e
    subst h0
    clear hcell hnil
    go_enter Try.func62, Try.ntmps62
    have hq : ∀ w0 : World, Sem.run Try.prog (binOp .eql 23 (.slice none 0 0) (.slice none 0 0)) w0 = .ok (.bool true) w0 := fun w0 => Lib.run_eql_slice_nil w0 23 9 none 0 0 0 0 Try.underlying23
    go_wp2
    go_ret
    exact ⟨_, rfl, OwnS.nil _ _, Grew.refl _⟩
  | some ad =>
    clear hcell hnil
    have hq : ∀ w0 : World, Sem.run Try.prog (binOp .eql 23 (.slice (some ad) l.length c) (.slice none 0 0)) w0 = .ok (.bool false) w0 := fun w0 => Lib.run_eql_slice_nil w0 23 9 (some ad) l.length c 0 0 Try.underlying23
    have hown : Hid (∀ T, T = 9 → OwnS (w.alloc (.cells #[] T)) w.heap.size (.slice (some ⟨w.heap.size, 0, none⟩) 0 0) []) := fun T e => by subst e; exact OwnS.empty w
    go_enter Try.func62, Try.ntmps62
    go_wp2_with (at_builtin; refine wpList_appendS rfl _ _ rfl w.heap.size (.slice (some ⟨w.heap.size, 0, none⟩) 0 0) [] rfl (hown.out _ rfl) _ l rfl (HX.out.grew ((Grew.refl w).alloc _)) (by simp; omega) (by simp) ?_; intro v' w3 hown2 hgr hqq; obtain ⟨va2, vc2, rfl, _, _, _⟩ := rows_form hown2; have HO := Lib.hid (And.intro hown2 (grew_row (hown.out _ rfl) ((Grew.refl w).alloc _) hgr)); clear hown2 hgr hqq)
    go_ret
    exact ⟨_, rfl, by simpa using HO.out.1, HO.out.2⟩
set_option maxRecDepth 100000 in
set_option maxHeartbeats 4000000 in
theorem treecopy_any : ∀ (m : Nat) (t : Tr), t.size ≤ m → ∀ (v : Value) (w : World), NodeAt w t v → Few t →
    Calls Try.prog 39 #[v] w fun r w' => ∃ v', r = .returned v' ∧ OwnT w' w.heap.size t v' (Fresh w w') ∧ Grew w w' := by
  intro m
  induction m with
  | zero => intro t ht; have := t.size_pos; omega
  | succ m ih =>
  intro t ht v w hn hf
  obtain ⟨k, n, u, s, keys, l⟩ := t
  simp only [NodeAt] at hn
  obtain ⟨hb, kv, lv, vs, rfl, hks, hrows, hkids⟩ := hn
  simp only [Few] at hf
  obtain ⟨hf1, hf2, hf3⟩ := hf
  have hkl : vs.length = l.length := hkids.length
  have HKS := Lib.hid hks
  have HK := Lib.hid hkids
  have HF3 := Lib.hid hf3
  have HB := Lib.hid hb
  obtain ⟨a4, c4, rfl, hx1, hx2, hx3, hx4⟩ := hks
  clear hx1 hx2 hx3 hx4
  have HROWS := Lib.hid hrows
  obtain ⟨a5, c5, rfl, hx1, hc5, hx3, hx4⟩ := hrows
  clear hx1 hx3 hx4
  rw [hkl] at HROWS ⊢
  have hkz : Hid (∀ x ∈ keys, lenok x.size) := fun x hx => by
    obtain ⟨_, _, _, _, _, _, h⟩ := HKS.out
    obtain ⟨i, hi, rfl⟩ := List.mem_iff_getElem.1 hx
    exact (h i _ (List.getElem?_eq_getElem hi)).1
  have hsz : ∀ x ∈ l, x.size ≤ m := fun x hx => by have := size_mem hx; simp only [Tr.size] at ht; omega
  have HSZ := Lib.hid hsz
  clear hkids hf3 hb hsz ht hkl hc5
  go_enter Try.func39, Try.ntmps39
  go_wp2_with fail
  have hb1 := heap_alloc_new w (.cells #[.int .i64 k, .int .i64 n, .int .u64 u, .string s, .slice a4 keys.length c4, .slice a5 l.length c5] 26)
  have hg1 := (Grew.refl w).alloc (.cells #[.int .i64 k, .int .i64 n, .int .u64 u, .string s, .slice a4 keys.length c4, .slice a5 l.length c5] 26)
  have hs1 : (w.alloc (.cells #[.int .i64 k, .int .i64 n, .int .u64 u, .string s, .slice a4 keys.length c4, .slice a5 l.length c5] 26)).heap.size = w.heap.size + 1 := World.size_alloc _ _
  generalize (w.alloc (.cells #[.int .i64 k, .int .i64 n, .int .u64 u, .string s, .slice a4 keys.length c4, .slice a5 l.length c5] 26)) = w1 at *
  have hb2 := heap_alloc_new w1 (.cells #[.int .i64 0, .int .i64 0, .int .u64 0, .string ⟨#[]⟩, .slice none 0 0, .slice none 0 0] 26)
  have hg2 := (Grew.refl w1).alloc (.cells #[.int .i64 0, .int .i64 0, .int .u64 0, .string ⟨#[]⟩, .slice none 0 0, .slice none 0 0] 26)
  have hs2 : (w1.alloc (.cells #[.int .i64 0, .int .i64 0, .int .u64 0, .string ⟨#[]⟩, .slice none 0 0, .slice none 0 0] 26)).heap.size = w1.heap.size + 1 := World.size_alloc _ _
  rw [hs1] at hb2 hs2
  generalize (w1.alloc (.cells #[.int .i64 0, .int .i64 0, .int .u64 0, .string ⟨#[]⟩, .slice none 0 0, .slice none 0 0] 26)) = w2 at *
  replace hb1 := hg2.heap hb1
  have hG := hg1.trans hg2
  have hs2' : w2.heap.size = w.heap.size + 2 := by omega
  obtain ⟨N, hN⟩ : ∃ N, w.heap.size = N := ⟨_, rfl⟩
  rw [hN] at hb1 hb2 hs2' ⊢
  have HN := Lib.hid hN
  have HS2 := Lib.hid hs2'
  have HG0 := Lib.hid hG
  clear hs1 hs2 hs2' hg1 hg2 hN
  refine (clone_any _ _ _ (HKS.out.grew hG) (by omega)).mono ?_
  rintro r w2' ⟨kv', rfl, hkv, hgk⟩
  obtain ⟨va, vc, rfl, hz1, hz2, hz3⟩ := rows_form hkv
  replace hb1 := hgk.heap hb1
  replace hb2 := hgk.heap hb2
  have q5 := row_frozen hb1 4
  have q4 := row_cellT hb1 4 _ rfl
  obtain ⟨w3, hw3⟩ : ∃ w3, w2'.setCell ⟨N, 4, none⟩ (.slice va keys.length vc) = w3 := ⟨_, rfl⟩
  have hm3 : Moved (fun g => g = N) w2' w3 := by rw [← hw3]; exact Moved.setCell (S := fun g => g = N) (p := ⟨N, 4, none⟩) (Moved.refl _ w2') (fun _ => rfl) _
  have hb3 : w3.heap[N]? = some (.cells #[.int .i64 k, .int .i64 n, .int .u64 u, .string s, .slice va keys.length vc, .slice a5 l.length c5] 26 (0, 0)) := by
    rw [← hw3]
    have := heap_setCell_same w2' N 4 _ _ (.slice va keys.length vc) hb1
    simpa using this
  have HB1' := Lib.hid hb3
  have HROW := Lib.hid hb3
  have HB2' := Lib.hid (hm3.heap hb2 (by omega))
  have HKV : Hid (OwnS w3 (N + 2) (.slice va keys.length vc) keys) := rows_base (Moved.owns hm3 hkv (fun g hg e => not_block hkv hb1 (by decide) (by rw [hg, e]))) (by have := HS2.out; omega)
  have HG3 : Hid (Grew w w3) := Moved.fresh (hG.trans hgk) hm3 (fun g h => by have := HN.out; omega)
  have HW3 := Lib.hid hw3
  have l5 := row_cellT hb1 5 _ rfl
  clear hb1 hb2 hb3 hm3 hw3 hkv hG hz1 hz2 hz3 hgk
  go_wp2_with fail
  rw [HW3.out]
  clear q4 q5
  go_loopw [3, 13] (fun v i wr => ∃ kk : Nat, kk ≤ l.length ∧ i = .int .i64 kk ∧ Hid (Grow (fun _ => False) w3 wr v (l.take kk))) (fun _ i _ => l.length - (intOf i).toNat)
  case atStart => exact ⟨0, Nat.zero_le _, rfl, by show Grow _ _ _ _ _; exact Grow.start _ _⟩
  case round =>
    obtain ⟨kk, hkk, rfl, HW⟩ := hrel
    have hgw : Grew w3 wr := by obtain ⟨_, _, _, _, _, hm⟩ := HW.out; exact Moved.fresh (Grew.refl _) hm (fun g h => h.elim)
    have HGW := Lib.hid hgw
    clear hgw
    by_cases hlt : kk < l.length
    · obtain ⟨x, hx⟩ : ∃ x, l[kk]? = some x := ⟨_, List.getElem?_eq_getElem hlt⟩
      obtain ⟨xv, hxv, hnx⟩ := HK.out.get hx
      have hxm : x ∈ l := List.mem_of_getElem? hx
      have HX := Lib.hid (show l.take kk ++ [x] = l.take (kk + 1) by rw [List.take_add_one, hx]; rfl)
      have HFX := Lib.hid (HF3.out.mem hxm)
      have hxs := HSZ.out x hxm
      have hcall : Hid (∀ w', Grew w w' → NodeAt w' x xv) := fun w' hg => hnx.grew hg
      obtain ⟨b, off, rfl, hc6⟩ : ∃ b off, a5 = some ⟨b, off, none⟩ ∧ Cells6 wr b (off + kk * 6) xv := by
        obtain ⟨a, c, e, _, _, _, h⟩ := HROWS.out
        injection e with e1 e2 e3
        subst e1
        obtain ⟨b, off, e, h6⟩ := h kk xv hxv
        exact ⟨b, off, e, h6.grew (HG3.out.trans HGW.out)⟩
      obtain ⟨xk, xn, xu, xs, xa4, xn4, xc4, xa5, xn5, xc5, rfl⟩ := hnx.node6
      obtain ⟨e0, e1, e2, e3, e4, e5⟩ := hc6.get
      clear hc6 hx hxv hnx hxm
      have hlti : (kk : Int) < l.length := by omega
      go_wp2_with fail
      have HGR := Lib.hid ((Grew.refl wr).alloc (.cells #[.int .i64 xk, .int .i64 xn, .int .u64 xu, .string xs, .slice xa4 xn4 xc4, .slice xa5 xn5 xc5] 26))
      generalize (wr.alloc (.cells #[.int .i64 xk, .int .i64 xn, .int .u64 xu, .string xs, .slice xa4 xn4 xc4, .slice xa5 xn5 xc5] 26)) = ws at *
      have HWS : Hid (Grow (fun _ => False) w3 ws u3 (l.take kk)) := HW.out.kept (Moved.of_grew HGR.out) (fun _ h => h.elim) (fun _ h => h)
      refine (ih x hxs _ ws (hcall.out ws (HG3.out.trans (HGW.out.trans HGR.out))) HFX.out).mono ?_
      rintro r w4 ⟨xv, rfl, hox, hg4⟩
      obtain ⟨yk, yn, yu, ys, ya4, yn4, yc4, ya5, yn5, yc5, rfl⟩ := hox.node6
      have HOX := Lib.hid hox
      have HG4 := Lib.hid hg4
      obtain ⟨vs4, S4, q1, q2, q3, q4⟩ := HWS.out
      obtain ⟨ga, gc, rfl, hz1, hz2, hz3⟩ := HWS.out.form
      have HV4 : Hid (vs4.length ≤ 4096) := by show _ ≤ _; rw [q2.length, List.length_take]; omega
      have HQ1 := Lib.hid q1
      have HQ2 := Lib.hid q2
      have HQ3 := Lib.hid q3
      have HQ4 := Lib.hid q4
      have HON : Hid (∀ o, OwnN (w4.alloc o) w3.heap.size (.slice ga (l.take kk).length gc) vs4) := fun o => (q1.grew hg4).grew ((Grew.refl _).alloc o)
      have HSZ4 : Hid (∀ o, w3.heap.size ≤ (w4.alloc o).heap.size) := fun o => Nat.le_trans (Nat.le_trans (Nat.le_trans HGW.out.size HGR.out.size) hg4.size) ((Grew.refl w4).alloc o).size
      clear q1 q2 q3 q4 hz1 hz2 hz3 hox hg4 HW HWS e0 e1 e2 e3 e4 e5
      generalize l.take kk = L at *
      go_wp2_with (at_builtin; refine wpList_appendN rfl _ _ rfl w3.heap.size _ vs4 rfl (HON.out _) _ _ (.agg #[.int .i64 yk, .int .i64 yn, .int .u64 yu, .string ys, .slice ya4 yn4 yc4, .slice ya5 yn5 yc5]) rfl (heap_alloc_new _ _) ⟨_, _, _, _, _, _, _, _, _, _, rfl⟩ (by have := HV4.out; omega) (HSZ4.out _) ?_; intro v' w5 hown hgr hnx; obtain ⟨va2, vc2, rfl, hz1, hz2, hz3⟩ := rows_form hown.1; have HG5 := Lib.hid (Grow.step (R := fun _ => False) (fun g h => h.elim) vs4 S4 HQ2.out HQ1.out HQ3.out HQ4.out HOX.out (Moved.of_grew HG4.out) _ hown hgr hnx); clear hown hgr hnx hz1 hz2 hz3)
      go_roundw
      case rel =>
        refine ⟨kk + 1, by omega, by go_num, ?_⟩
        show Grow _ _ _ _ _
        rw [← HX.out]
        have hh := HG5.out
        rw [List.length_append] at hh
        exact hh
      case measure => simp [intOf]; omega
    · have ek : kk = l.length := by omega
      subst ek
      have hw := HW.out
      rw [List.take_length] at hw
      have HE := Lib.hid hw
      have hgw := HGW.out
      have hrow := hgw.heap HROW.out
      have hres := hgw.heap HB2'.out
      have HROWW := Lib.hid hrow
      have HRESW := Lib.hid hres
      have f5 := row_frozen hrow 5
      have r0 := row_frozen hres 0
      have r1 := row_frozen hres 1
      have r2 := row_frozen hres 2
      have r3 := row_frozen hres 3
      have r4 := row_frozen hres 4
      have r5 := row_frozen hres 5
      have d0 := row_cellT hrow 0 _ rfl
      have d1 := row_cellT hrow 1 _ rfl
      have d2 := row_cellT hrow 2 _ rfl
      have d3 := row_cellT hrow 3 _ rfl
      have d4 := row_cellT hrow 4 _ rfl
      have d5 := row_cellT hrow 5 _ rfl
      have z0 := row_cellT hres 0 _ rfl
      have z1 := row_cellT hres 1 _ rfl
      have z2 := row_cellT hres 2 _ rfl
      have z3 := row_cellT hres 3 _ rfl
      have z4 := row_cellT hres 4 _ rfl
      have z5 := row_cellT hres 5 _ rfl
      obtain ⟨ga, gc, rfl, hz1, hz2, hz3⟩ := HE.out.form
      clear hw HW hgw hrow hres hz1 hz2 hz3
      have hT := moved_close wr N (N + 1) (.int .i64 k) (.int .i64 n) (.int .u64 u) (.string s) (.slice va keys.length vc) (.slice ga l.length gc) (.slice ga l.length gc)
      have hTW : Grew w (store6 (wr.setCell ⟨N, 5, none⟩ (.slice ga l.length gc)) (N + 1) (.int .i64 k) (.int .i64 n) (.int .u64 u) (.string s) (.slice va keys.length vc) (.slice ga l.length gc)) := Moved.fresh (HG3.out.trans HGW.out) hT (fun q hq => by have h1 := HN.out; rcases hq with rfl | rfl <;> omega)
      have hkvW : OwnS wr (N + 2) (.slice va keys.length vc) keys := HKV.out.grew HGW.out
      have hfin : OwnT (store6 (wr.setCell ⟨N, 5, none⟩ (.slice ga l.length gc)) (N + 1) (.int .i64 k) (.int .i64 n) (.int .u64 u) (.string s) (.slice va keys.length vc) (.slice ga l.length gc)) w.heap.size (.mk k n u s keys l) (.agg #[.int .i64 k, .int .i64 n, .int .u64 u, .string s, .slice va keys.length vc, .slice ga l.length gc]) (Fresh w (store6 (wr.setCell ⟨N, 5, none⟩ (.slice ga l.length gc)) (N + 1) (.int .i64 k) (.int .i64 n) (.int .u64 u) (.string s) (.slice va keys.length vc) (.slice ga l.length gc))) := by
        have h1 := HN.out
        have h3 : N < w3.heap.size := (Array.getElem?_eq_some_iff.1 HROW.out).1
        have h4 : N + 1 < w3.heap.size := (Array.getElem?_eq_some_iff.1 HB2'.out).1
        refine Grow.tree (((HE.out.wider (fun _ h => h.elim)).kept hT (fun q hq => ?_) (fun _ h => h))) ⟨HB.out.1, HB.out.2.1, HB.out.2.2.1, HB.out.2.2.2, hkz.out⟩ HG3.out.size ?_ (fun q hq => (World.ownsRow.lt HKV.out q hq).2)
        · rcases hq with rfl | rfl <;> omega
        · refine rows_base (Moved.owns hT hkvW (fun q hq e => ?_)) (by omega)
          rcases e with rfl | rfl
          · exact not_block hkvW HROWW.out (by decide) hq
          · exact not_block hkvW HRESW.out (by decide) hq
      have HFIN := Lib.hid (And.intro hfin hTW)
      clear hT hTW hfin hkvW
      go_wp2
      refine bodyPost_ret (v := .agg #[.int .i64 k, .int .i64 n, .int .u64 u, .string s, .slice va keys.length vc, .slice ga l.length gc]) (by simp [results, Try.results39, go_sem, z0, z1, z2, z3, z4, z5]) rfl ?_
      exact ⟨_, rfl, HFIN.out.1, HFIN.out.2⟩
end Go.Proofs.Ytfbeepkogcmlmaa

/-
  Trees: the table of kinds (uses, part).
-/
namespace Go.Proofs.Ytfbeepkogcmlmaa
open Go Go.ChangeShapes Go.WideShapes Go.ChangeAt Go.RowKit Go.Joins Go.Deep
set_option linter.unusedVariables false
set_option linter.unusedSimpArgs false

/-- The fields that a kind uses: N 1, U 2, S 4, Keys 8. -/
def usesF (k : Int) : Int :=
  if k = 2 ∨ k = 3 ∨ k = 8 then 1 else if k = 4 ∨ k = 9 then 2 else if k = 5 ∨ k = 6 ∨ k = 7 then 4 else if k = 17 then 8 else 0
/-- The children's kind: 0 any, -1 none. -/
def partF (k : Int) : Int :=
  if k = 10 ∨ k = 17 then 0 else if k = 11 ∨ k = 15 then 3 else if k = 12 ∨ k = 16 then 4 else if k = 13 then 5 else if k = 14 then 2 else -1
theorem kinds (k : Int) (h1 : 1 ≤ k) (h2 : k ≤ 17) : k = 1 ∨ k = 2 ∨ k = 3 ∨ k = 4 ∨ k = 5 ∨ k = 6 ∨ k = 7 ∨ k = 8 ∨ k = 9 ∨ k = 10 ∨ k = 11 ∨ k = 12 ∨ k = 13 ∨ k = 14 ∨ k = 15 ∨ k = 16 ∨ k = 17 := by omega
/-- 'a[i]' of an array value whose elements are one cell each. -/
theorem run_index_one {P : Program} (t e : TypeId) (n : Nat) (cs : Array Value) (k : IntKind) (i : Int) (w : World) (h : P.underlying t = some (.array n e))
    (he : (isAgg e).run P w = .ok false w) (hs : (P.info? e).map (·.size) = some 1) (h0 : 0 ≤ i) (h1 : i < n) (v : Value) (hv : cs[i.toNat]? = some v) :
    (Instr.index t (.agg cs) (.int k i)).run P w = .ok v w := by
  have hn : 0 ≤ i ∧ i < (n : Int) := ⟨h0, h1⟩
  cases hq : P.info? e with
  | none => simp [hq] at hs
  | some ie =>
    have hsz : ie.size = 1 := by simpa [hq] using hs
    have hso : (sizeOf e).run P w = .ok 1 w := by simp [sizeOf, typeInfo, hq, hsz]
    unfold Instr.index
    simp [asIntOf, Sem.run_bind, Sem.run_pure, Result.andThen_ok, run_underlying h, hn, hso, part, he, hv]
set_option maxRecDepth 100000 in
theorem uses_any (k : Int) (w : World) (h1 : 1 ≤ k) (h2 : k ≤ 17) : Calls Try.prog 55 #[.int .i64 k] w fun r w' => r = .returned (.int .i64 (usesF k)) ∧ w = w' := by
  have hx : ∀ w', (Instr.index 78 (.agg #[.int .i64 0, .int .i64 0, .int .i64 1, .int .i64 1, .int .i64 2, .int .i64 4, .int .i64 4, .int .i64 4, .int .i64 1, .int .i64 2, .int .i64 0, .int .i64 0, .int .i64 0, .int .i64 0, .int .i64 0, .int .i64 0, .int .i64 0, .int .i64 8]) (.int .i64 k)).run Try.prog w' = .ok (.int .i64 (usesF k)) w' := fun w' =>
    run_index_one (P := Try.prog) 78 3 18 _ .i64 k w' Try.underlying78 (Try.isAgg3 w') (by kernel_rfl) (by omega) (by omega) _ (by
      rcases kinds k h1 h2 with rfl | rfl | rfl | rfl | rfl | rfl | rfl | rfl | rfl | rfl | rfl | rfl | rfl | rfl | rfl | rfl | rfl <;> rfl)
  go_enter Try.func55, Try.ntmps55
  go_wp2
  go_ret
  exact ⟨rfl, rfl⟩
set_option maxRecDepth 100000 in
theorem part_any (k : Int) (w : World) (h1 : 1 ≤ k) (h2 : k ≤ 17) : Calls Try.prog 56 #[.int .i64 k] w fun r w' => r = .returned (.int .i64 (partF k)) ∧ w = w' := by
  have hx : ∀ w', (Instr.index 78 (.agg #[.int .i64 0, .int .i64 (-1), .int .i64 (-1), .int .i64 (-1), .int .i64 (-1), .int .i64 (-1), .int .i64 (-1), .int .i64 (-1), .int .i64 (-1), .int .i64 (-1), .int .i64 0, .int .i64 3, .int .i64 4, .int .i64 5, .int .i64 2, .int .i64 3, .int .i64 4, .int .i64 0]) (.int .i64 k)).run Try.prog w' = .ok (.int .i64 (partF k)) w' := fun w' =>
    run_index_one (P := Try.prog) 78 3 18 _ .i64 k w' Try.underlying78 (Try.isAgg3 w') (by kernel_rfl) (by omega) (by omega) _ (by
      rcases kinds k h1 h2 with rfl | rfl | rfl | rfl | rfl | rfl | rfl | rfl | rfl | rfl | rfl | rfl | rfl | rfl | rfl | rfl | rfl <;> rfl)
  go_enter Try.func56, Try.ntmps56
  go_wp2
  go_ret
  exact ⟨rfl, rfl⟩
end Go.Proofs.Ytfbeepkogcmlmaa

/-
  Trees: whether a child of another kind is among the children (the closure in such, slices.IndexFunc, slices.ContainsFunc).
-/
namespace Go.Proofs.Ytfbeepkogcmlmaa
open Go Go.ChangeShapes Go.WideShapes Go.ChangeAt Go.RowKit Go.Joins Go.Deep
set_option linter.unusedVariables false
set_option linter.unusedSimpArgs false

def otherB (p : Int) (x : Tr) : Bool := p != 0 && x.kind != p
theorem kind_cell {w : World} {t : Tr} {k n u : Int} {s : ByteArray} {a4 a5 : Option Addr} {n4 c4 n5 c5 : Nat} (h : NodeAt w t (.agg #[.int .i64 k, .int .i64 n, .int .u64 u, .string s, .slice a4 n4 c4, .slice a5 n5 c5])) : k = t.kind := by
  cases t
  simp only [NodeAt] at h
  obtain ⟨_, kv, lv, vs, e, _⟩ := h
  injection e with e
  injection e with e
  simp at e
  exact e.1
set_option maxRecDepth 100000 in
theorem other_any (p : Int) (bp : Nat) (t : Tr) (v : Value) (w : World) (hn : NodeAt w t v) (hb : w.cell? ⟨bp, 0, none⟩ = some (.int .i64 p)) :
    Calls Try.prog 57 #[v, .pointer (some ⟨bp, 0, none⟩)] w fun r w' => r = .returned (.bool (otherB p t)) ∧ Grew w w' := by
  obtain ⟨k, n, u, s, a4, n4, c4, a5, n5, c5, rfl⟩ := hn.node6
  have HK := Lib.hid (kind_cell hn)
  clear hn
  have hlt : bp < w.heap.size := World.block_lt_of_cell? w _ hb
  have hb2 : ∀ o, (w.alloc o).cell? ⟨bp, 0, none⟩ = some (.int .i64 p) := fun o => ((Grew.refl w).alloc o).cell hb
  by_cases hp : p = 0
  · have hq : (p != 0) = false := by simp [hp]
    have HF : Hid (otherB p t = false) := by show _ = _; simp [otherB, hp]
    clear hp
    go_enter Try.func57, Try.ntmps57
    go_wp2
    go_ret
    exact ⟨by rw [HF.out]; rfl, (Grew.refl w).alloc _⟩
  · have hq : (p != 0) = true := by simp [hp]
    have HF : Hid (otherB p t = (k != p)) := by show _ = _; simp [otherB, hp, HK.out]
    clear hp
    go_enter Try.func57, Try.ntmps57
    go_wp2
    go_ret
    exact ⟨by rw [HF.out]; rfl, (Grew.refl w).alloc _⟩
/-- The first child that is such, or -1. -/
def findF (p : Int) : List Tr → Nat → Int
  | [], _ => -1
  | t :: r, i => if otherB p t then i else findF p r (i + 1)
theorem findF_stop (p : Int) (l : List Tr) (k i : Nat) (x : Tr) (hx : l[k]? = some x) (h : ∀ y ∈ l.take k, otherB p y = false) (ho : otherB p x = true) : findF p l i = ((i + k : Nat) : Int) := by
  induction l generalizing k i with
  | nil => simp at hx
  | cons t r ih =>
    cases k with
    | zero => simp at hx; subst hx; simp [findF, ho]
    | succ k =>
      have h0 : otherB p t = false := h t (by simp)
      rw [findF, h0]
      simp only [Bool.false_eq_true, if_false]
      rw [ih k (i + 1) (by simpa using hx) (fun y hy => h y (by simp [hy]))]
      congr 1; omega
theorem findF_none (p : Int) (l : List Tr) (i : Nat) (h : ∀ y ∈ l, otherB p y = false) : findF p l i = -1 := by
  induction l generalizing i with
  | nil => rfl
  | cons t r ih => rw [findF, h t (by simp)]; simp only [Bool.false_eq_true, if_false]; exact ih (i + 1) (fun y hy => h y (by simp [hy]))
theorem findF_ge (p : Int) (l : List Tr) (i : Nat) : decide (0 ≤ findF p l i) = l.any (otherB p) := by
  induction l generalizing i with
  | nil => rfl
  | cons t r ih =>
    rw [findF, List.any_cons]
    cases h : otherB p t with
    | true => simp
    | false => simpa using ih (i + 1)
set_option maxRecDepth 100000 in
set_option maxHeartbeats 1000000 in
theorem indexfunc_any (p : Int) (bp : Nat) (l : List Tr) (lv : Value) (vs : List Value) (w : World) (hr : RowsAt w lv vs) (hk : KidsAt w l vs) (hb : w.cell? ⟨bp, 0, none⟩ = some (.int .i64 p)) :
    Calls Try.prog 67 #[lv, .func (.func 57) #[] #[.pointer (some ⟨bp, 0, none⟩)]] w fun r w' => r = .returned (.int .i64 (findF p l 0)) ∧ Grew w w' := by
  have HR := Lib.hid hr
  have HK := Lib.hid hk
  have HB := Lib.hid hb
  have hkl := hk.length
  obtain ⟨a, c, rfl, hlc, hc, hz1, hz2⟩ := hr
  unfold lenok at hc
  rw [hkl] at HR hlc ⊢
  have hlen : l.length ≤ 9223372036854775807 := by omega
  clear hz1 hz2 hk hb hkl hlc hc
  go_enter Try.func67, Try.ntmps67
  go_wp2_with fail
  go_loopw [8] (fun i wr => ∃ kk : Nat, kk ≤ l.length ∧ i = .int .i64 kk ∧ Hid ((∀ y ∈ l.take kk, otherB p y = false) ∧ Grew w wr)) (fun i _ => l.length - (intOf i).toNat)
  case atStart => exact ⟨0, Nat.zero_le _, rfl, by show _ ∧ _; exact ⟨by simp, Grew.refl _⟩⟩
  case round =>
    obtain ⟨kk, hkk, rfl, HW⟩ := hrel
    by_cases hlt : kk < l.length
    · obtain ⟨x, hx⟩ : ∃ x, l[kk]? = some x := ⟨_, List.getElem?_eq_getElem hlt⟩
      obtain ⟨xv, hxv, hnx⟩ := HK.out.get hx
      obtain ⟨b, off, rfl, hc6⟩ : ∃ b off, a = some ⟨b, off, none⟩ ∧ Cells6 wr b (off + kk * 6) xv := by
        obtain ⟨a, c, e, _, _, _, h⟩ := HR.out
        injection e with e1 e2 e3
        subst e1
        obtain ⟨b, off, e, h6⟩ := h kk xv hxv
        exact ⟨b, off, e, h6.grew HW.out.2⟩
      obtain ⟨xk, xn, xu, xs, xa4, xn4, xc4, xa5, xn5, xc5, rfl⟩ := hnx.node6
      obtain ⟨e0, e1, e2, e3, e4, e5⟩ := hc6.get
      have HNX := Lib.hid hnx
      have HX := Lib.hid hx
      clear hc6 hx hxv hnx
      have hlti : (kk : Int) < l.length := by omega
      go_wp2_with fail
      refine (other_any p bp x _ _ (HNX.out.grew HW.out.2) (HW.out.2.cell HB.out)).mono ?_
      cases ho : otherB p x with
      | false =>
        have HO := Lib.hid ho
        clear ho
        rintro r w3 ⟨rfl, hg⟩
        have HG := Lib.hid (HW.out.2.trans hg)
        clear hg
        go_wp2_with fail
        go_roundw
        case rel =>
          refine ⟨kk + 1, by omega, by go_num, ?_⟩
          show _ ∧ _
          refine ⟨fun y hy => ?_, HG.out⟩
          rw [List.take_add_one, HX.out] at hy
          rcases List.mem_append.1 hy with hy | hy
          · exact HW.out.1 y hy
          · simp at hy; subst hy; exact HO.out
        case measure => simp [intOf]; omega
      | true =>
        have HF : Hid (findF p l 0 = (kk : Int)) := by show _ = _; rw [findF_stop p l kk 0 x HX.out HW.out.1 ho, Nat.zero_add]
        clear ho
        rintro r w3 ⟨rfl, hg⟩
        have HG := Lib.hid (HW.out.2.trans hg)
        clear hg
        go_wp2_with fail
        go_ret
        exact ⟨by rw [HF.out]; rfl, HG.out⟩
    · have ek : kk = l.length := by omega
      subst ek
      have HF : Hid (findF p l 0 = -1) := findF_none p l 0 (by have h := HW.out.1; rwa [List.take_length] at h)
      go_wp2
      go_ret
      exact ⟨by rw [HF.out]; rfl, HW.out.2⟩
set_option maxRecDepth 100000 in
theorem contains_any (p : Int) (bp : Nat) (l : List Tr) (lv : Value) (vs : List Value) (w : World) (hr : RowsAt w lv vs) (hk : KidsAt w l vs) (hb : w.cell? ⟨bp, 0, none⟩ = some (.int .i64 p)) :
    Calls Try.prog 58 #[lv, .func (.func 57) #[] #[.pointer (some ⟨bp, 0, none⟩)]] w fun r w' => r = .returned (.bool (l.any (otherB p))) ∧ Grew w w' := by
  have hcall := indexfunc_any p bp l lv vs w hr hk hb
  obtain ⟨a, c, rfl, hx⟩ := hr
  have hf := findF_ge p l 0
  generalize findF p l 0 = q at *
  have HF := Lib.hid hf
  have HC := Lib.hid hcall
  clear hcall hx hf hk hb
  go_enter Try.func58, Try.ntmps58
  go_wp2_with fail
  refine HC.out.mono ?_
  rintro r w3 ⟨rfl, hg⟩
  have HG := Lib.hid hg
  clear hg
  go_wp2
  go_ret
  exact ⟨by rw [← HF.out]; rfl, HG.out⟩
end Go.Proofs.Ytfbeepkogcmlmaa

/-
  DERIVED: THE SHELF's CONTRACTS AT THIS DUMP, IN PLAIN WORDS (tools/lay-plain.mjs out of 'TryShelf.lean', which tools/lay-shelf.mjs wrote): THE SAME DECLARATIONS UNDER THE SAME NAMES: 'import', 'namespace', 'open', 'def', 'theorem' AND NOTHING ELSE: no command of the shelf's: FOR A HAND-IN. Each laying: the table of numbers ('.._ren') and one theorem, a field a fact of the dump's own or the kernel's comparison; each contract: ONE APPLICATION.
-/
namespace Go.Proofs
open Go.Shelf
def Try.lays106_ren : Go.Shelf.Ren := ⟨fun | 106 => 71 | 213 => 78 | 265 => 90 | n => n, fun | 9 => 9 | 3 => 3 | n => n, fun | n => n⟩
theorem Try.lays106 : Go.Proofs.Lays.n106 Try.prog Try.lays106_ren := {
  mixed := by kernel_rfl
  f106 := Try.func71.trans (congrArg some (by kernel_rfl))
  f213 := Try.func78.trans (congrArg some (by kernel_rfl))
  f265 := Try.func90.trans (congrArg some (by kernel_rfl))
  t3 := Try.underlying3
  a3 := Try.isAgg3
  z3 := Try.sizeOf3
  v3 := Try.zeroValue3
  t9 := Try.underlying9
  a9 := Try.isAgg9
  z9 := Try.sizeOf9
  v9 := Try.zeroValue9 }
open Go.RowKit in
/-- strings.Compare: "Compare returns an integer comparing two strings lexicographically. The result will be 0 if a == b, -1 if a < b, and +1 if a > b.": IT RETURNS 'Lib.compareBytes a b'; the world is as it was. (LAID: no walk: one application.) -/
theorem Try.strings_Compare (a b : ByteArray) (w : World) :
    Calls Try.prog 71 #[.string a, .string b] w fun e w' => e = .returned (.int .i64 (Lib.compareBytes a.data.toList b.data.toList)) ∧ w' = w := Any.strings_Compare Try.lays106 a b w
def Try.lays137_ren : Go.Shelf.Ren := ⟨fun | 137 => 60 | 217 => 68 | 266 => 75 | n => n, fun | 9 => 9 | 5 => 5 | 3 => 3 | n => n, fun | n => n⟩
theorem Try.lays137 : Go.Proofs.Lays.n137 Try.prog Try.lays137_ren := {
  mixed := by kernel_rfl
  f137 := Try.func60.trans (congrArg some (by kernel_rfl))
  f217 := Try.func68.trans (congrArg some (by kernel_rfl))
  f266 := Try.func75.trans (congrArg some (by kernel_rfl))
  t3 := Try.underlying3
  a3 := Try.isAgg3
  z3 := Try.sizeOf3
  v3 := Try.zeroValue3
  t5 := Try.underlying5
  a5 := Try.isAgg5
  z5 := Try.sizeOf5
  v5 := Try.zeroValue5
  t9 := Try.underlying9
  a9 := Try.isAgg9
  z9 := Try.sizeOf9
  v9 := Try.zeroValue9 }
open Go.RowKit in
/-- strings.IndexByte: "IndexByte returns the index of the first instance of c in s, or -1 if c is not present in s.": IT RETURNS 'Lib.indexByte s c'; the world is as it was. (LAID: no walk: one application.) -/
theorem Try.strings_IndexByte (s : ByteArray) (c : Int) (w : World) :
    Calls Try.prog 60 #[.string s, .int .u8 c] w fun e w' => e = .returned (.int .i64 (Lib.indexByte s.data.toList c.toNat.toUInt8)) ∧ w' = w := Any.strings_IndexByte Try.lays137 s c w
def Try.laysSlF6_f69_ren : Go.Shelf.Ren := ⟨fun | 6 => 69 | 15 => 77 | 14 => 76 | 28 => 88 | 29 => 89 | 20 => 80 | 21 => 81 | 22 => 82 | 23 => 83 | 24 => 84 | 25 => 85 | 26 => 86 | 27 => 87 | 46 => 91 | 47 => 92 | 48 => 93 | 49 => 94 | 50 => 95 | 57 => 96 | n => n, fun | 22 => 69 | 24 => 3 | 25 => 37 | 3 => 3 | 39 => 85 | 0 => 0 | 53 => 95 | 55 => 22 | 4 => 4 | 46 => 88 | 45 => 87 | 50 => 92 | 5 => 5 | 9 => 9 | 66 => 97 | 70 => 101 | 76 => 103 | 77 => 104 | n => n, fun | n => n⟩
theorem Try.laysSlF6_f69 : Go.Proofs.SlLaysF.n6 Try.prog Try.laysSlF6_f69_ren := {
  mixed := by kernel_rfl
  f6 := ⟨Try.f69.name, by decide, Try.func69.trans (congrArg some (by kernel_rfl))⟩
  f14 := ⟨Try.f76.name, by decide, Try.func76.trans (congrArg some (by kernel_rfl))⟩
  f15 := Try.func77.trans (congrArg some (by kernel_rfl))
  f20 := ⟨Try.f80.name, by decide, Try.func80.trans (congrArg some (by kernel_rfl))⟩
  f21 := ⟨Try.f81.name, by decide, Try.func81.trans (congrArg some (by kernel_rfl))⟩
  f22 := ⟨Try.f82.name, by decide, Try.func82.trans (congrArg some (by kernel_rfl))⟩
  f23 := ⟨Try.f83.name, by decide, Try.func83.trans (congrArg some (by kernel_rfl))⟩
  f24 := ⟨Try.f84.name, by decide, Try.func84.trans (congrArg some (by kernel_rfl))⟩
  f25 := ⟨Try.f85.name, by decide, Try.func85.trans (congrArg some (by kernel_rfl))⟩
  f26 := ⟨Try.f86.name, by decide, Try.func86.trans (congrArg some (by kernel_rfl))⟩
  f27 := ⟨Try.f87.name, by decide, Try.func87.trans (congrArg some (by kernel_rfl))⟩
  f28 := Try.func88.trans (congrArg some (by kernel_rfl))
  f29 := Try.func89.trans (congrArg some (by kernel_rfl))
  f46 := ⟨Try.f91.name, by decide, Try.func91.trans (congrArg some (by kernel_rfl))⟩
  f47 := Try.func92.trans (congrArg some (by kernel_rfl))
  f48 := Try.func93.trans (congrArg some (by kernel_rfl))
  f49 := ⟨Try.f94.name, by decide, Try.func94.trans (congrArg some (by kernel_rfl))⟩
  f50 := ⟨Try.f95.name, by decide, Try.func95.trans (congrArg some (by kernel_rfl))⟩
  f57 := ⟨Try.f96.name, by decide, Try.func96.trans (congrArg some (by kernel_rfl))⟩
  t0 := Try.underlying0
  a0 := Try.isAgg0
  z0 := Try.sizeOf0
  v0 := Try.zeroValue0
  t3 := Try.underlying3
  a3 := Try.isAgg3
  z3 := Try.sizeOf3
  v3 := Try.zeroValue3
  t4 := Try.underlying4
  a4 := Try.isAgg4
  z4 := Try.sizeOf4
  v4 := Try.zeroValue4
  t5 := Try.underlying5
  a5 := Try.isAgg5
  z5 := Try.sizeOf5
  v5 := Try.zeroValue5
  t9 := Try.underlying9
  a9 := Try.isAgg9
  z9 := Try.sizeOf9
  v9 := Try.zeroValue9
  t22 := Try.underlying69
  a22 := Try.isAgg69
  z22 := Try.sizeOf69
  v22 := Try.zeroValue69
  a24 := Try.isAgg3
  z24 := Try.sizeOf3
  t25 := Try.underlying37
  a25 := Try.isAgg37
  z25 := Try.sizeOf37
  v25 := Try.zeroValue37
  t39 := Try.underlying85
  a39 := Try.isAgg85
  z39 := Try.sizeOf85
  v39 := Try.zeroValue85
  t45 := Try.underlying87
  a45 := Try.isAgg87
  z45 := Try.sizeOf87
  v45 := Try.zeroValue87
  t46 := Try.underlying88
  a46 := Try.isAgg88
  z46 := Try.sizeOf88
  v46 := Try.zeroValue88
  t50 := Try.underlying92
  a50 := Try.isAgg92
  z50 := Try.sizeOf92
  v50 := Try.zeroValue92
  t53 := Try.underlying95
  a53 := Try.isAgg95
  z53 := Try.sizeOf95
  v53 := Try.zeroValue95
  t55 := Try.underlying22
  a55 := Try.isAgg22
  z55 := Try.sizeOf22
  v55 := Try.zeroValue22
  t66 := Try.underlying97
  a66 := Try.isAgg97
  z66 := Try.sizeOf97
  v66 := Try.zeroValue97
  t70 := Try.underlying101
  a70 := Try.isAgg101
  z70 := Try.sizeOf101
  v70 := Try.zeroValue101
  t76 := Try.underlying103
  a76 := Try.isAgg103
  z76 := Try.sizeOf103
  v76 := Try.zeroValue103
  t77 := Try.underlying104
  a77 := Try.isAgg104
  z77 := Try.sizeOf104
  v77 := Try.zeroValue104 }
open Go.RowKit Go.Lib Go.Sort in
/-- **slices.SortFunc, IN THE DOCUMENTATION's OWN TERMS: A PERMUTATION OF WHAT THE ROW HELD, SORTED BY 'cmp(a, b) < 0'.** Which of two equals comes first is left open ("The sort is not guaranteed to be stable"). (LAID AT THE INSTANCE 'slices.SortFunc[[]int,int]': no walk: one application.) -/
theorem Try.slices_SortFunc {α : Type} [Inhabited α] (enc : α → Value) (h1 : OneCell enc) (cf : α → α → Int) (hO : SWO (ltOf cf)) (g : Nat) (cb : Array Value) (blk off cap : Nat) (d : Array α) (w : World) (eg : ∀ args w, (callFunc g args).run Try.prog w = .ok (.enter g args) w) (hcmp : CmpLays1 Try.prog g cb enc cf blk off d.size w) (hH : Holds enc w blk off d) (hblk : blk < w.heap.size) (hsz : d.size < 4611686018427387904) :
    Calls Try.prog 69 #[.slice (some ⟨blk, off, none⟩) d.size cap, .func (.func g) #[] cb] w fun e w' =>
      e = .returned (.tuple #[]) ∧ ∃ d' n os, PermIn 0 d.size d d' ∧ SortedIn (ltOf cf) 0 d.size d' ∧ w' = sortWorld enc w blk off n d' os := Any.slices_SortFunc Try.laysSlF6_f69 enc h1 cf hO g cb blk off cap d w eg hcmp hH hblk hsz
def Try.laysSlF06_f69_ren : Go.Shelf.Ren := ⟨fun | 6 => 69 | 15 => 77 | 14 => 76 | 28 => 88 | 29 => 89 | 20 => 80 | 21 => 81 | 22 => 82 | 23 => 83 | 24 => 84 | 25 => 85 | 26 => 86 | 27 => 87 | 46 => 91 | 47 => 92 | 48 => 93 | 49 => 94 | 50 => 95 | 57 => 96 | n => n, fun | 22 => 69 | 24 => 3 | 25 => 37 | 3 => 3 | 39 => 85 | 0 => 0 | 53 => 95 | 55 => 22 | 4 => 4 | 46 => 88 | 45 => 87 | 50 => 92 | 5 => 5 | 9 => 9 | 66 => 97 | 70 => 101 | 76 => 103 | 77 => 104 | n => n, fun | n => n⟩
theorem Try.laysSlF06_f69 : Go.Proofs.SlLaysF0.n6 Try.prog Try.laysSlF06_f69_ren := {
  mixed := by kernel_rfl
  f6 := ⟨Try.f69.name, by decide, Try.func69.trans (congrArg some (by kernel_rfl))⟩
  f14 := ⟨Try.f76.name, by decide, Try.func76.trans (congrArg some (by kernel_rfl))⟩
  f15 := Try.func77.trans (congrArg some (by kernel_rfl))
  f20 := ⟨Try.f80.name, by decide, Try.func80.trans (congrArg some (by kernel_rfl))⟩
  f21 := ⟨Try.f81.name, by decide, Try.func81.trans (congrArg some (by kernel_rfl))⟩
  f22 := ⟨Try.f82.name, by decide, Try.func82.trans (congrArg some (by kernel_rfl))⟩
  f23 := ⟨Try.f83.name, by decide, Try.func83.trans (congrArg some (by kernel_rfl))⟩
  f24 := ⟨Try.f84.name, by decide, Try.func84.trans (congrArg some (by kernel_rfl))⟩
  f25 := ⟨Try.f85.name, by decide, Try.func85.trans (congrArg some (by kernel_rfl))⟩
  f26 := ⟨Try.f86.name, by decide, Try.func86.trans (congrArg some (by kernel_rfl))⟩
  f27 := ⟨Try.f87.name, by decide, Try.func87.trans (congrArg some (by kernel_rfl))⟩
  f28 := Try.func88.trans (congrArg some (by kernel_rfl))
  f29 := Try.func89.trans (congrArg some (by kernel_rfl))
  f46 := ⟨Try.f91.name, by decide, Try.func91.trans (congrArg some (by kernel_rfl))⟩
  f47 := Try.func92.trans (congrArg some (by kernel_rfl))
  f48 := Try.func93.trans (congrArg some (by kernel_rfl))
  f49 := ⟨Try.f94.name, by decide, Try.func94.trans (congrArg some (by kernel_rfl))⟩
  f50 := ⟨Try.f95.name, by decide, Try.func95.trans (congrArg some (by kernel_rfl))⟩
  f57 := ⟨Try.f96.name, by decide, Try.func96.trans (congrArg some (by kernel_rfl))⟩
  t0 := Try.underlying0
  a0 := Try.isAgg0
  z0 := Try.sizeOf0
  v0 := Try.zeroValue0
  t3 := Try.underlying3
  a3 := Try.isAgg3
  z3 := Try.sizeOf3
  v3 := Try.zeroValue3
  t4 := Try.underlying4
  a4 := Try.isAgg4
  z4 := Try.sizeOf4
  v4 := Try.zeroValue4
  t5 := Try.underlying5
  a5 := Try.isAgg5
  z5 := Try.sizeOf5
  v5 := Try.zeroValue5
  t9 := Try.underlying9
  a9 := Try.isAgg9
  z9 := Try.sizeOf9
  v9 := Try.zeroValue9
  t22 := Try.underlying69
  a22 := Try.isAgg69
  z22 := Try.sizeOf69
  v22 := Try.zeroValue69
  t25 := Try.underlying37
  a25 := Try.isAgg37
  z25 := Try.sizeOf37
  v25 := Try.zeroValue37
  t39 := Try.underlying85
  a39 := Try.isAgg85
  z39 := Try.sizeOf85
  v39 := Try.zeroValue85
  t45 := Try.underlying87
  a45 := Try.isAgg87
  z45 := Try.sizeOf87
  v45 := Try.zeroValue87
  t46 := Try.underlying88
  a46 := Try.isAgg88
  z46 := Try.sizeOf88
  v46 := Try.zeroValue88
  t50 := Try.underlying92
  a50 := Try.isAgg92
  z50 := Try.sizeOf92
  v50 := Try.zeroValue92
  t53 := Try.underlying95
  a53 := Try.isAgg95
  z53 := Try.sizeOf95
  v53 := Try.zeroValue95
  t55 := Try.underlying22
  a55 := Try.isAgg22
  z55 := Try.sizeOf22
  v55 := Try.zeroValue22
  t66 := Try.underlying97
  a66 := Try.isAgg97
  z66 := Try.sizeOf97
  v66 := Try.zeroValue97
  t70 := Try.underlying101
  a70 := Try.isAgg101
  z70 := Try.sizeOf101
  v70 := Try.zeroValue101
  t76 := Try.underlying103
  a76 := Try.isAgg103
  z76 := Try.sizeOf103
  v76 := Try.zeroValue103
  t77 := Try.underlying104
  a77 := Try.isAgg104
  z77 := Try.sizeOf104
  v77 := Try.zeroValue104 }
open Go.RowKit Go.Lib Go.Sort in
/-- **slices.SortFunc AT NO ELEMENT, A nil SLICE TOO: nothing turns.** (LAID AT THE INSTANCE 'slices.SortFunc[[]int,int]': no walk: one application.) -/
theorem Try.slices_SortFunc_none {α : Type} [Inhabited α] (p : Option Addr) (cap : Nat) (fv : Value) (w : World) :
    Calls Try.prog 69 #[.slice p 0 cap, fv] w fun e w' => e = .returned (.tuple #[]) ∧ w' = w := AnyF.slices_SortFunc_none Try.laysSlF06_f69 p cap fv w
end Go.Proofs

/-
  Trees: the first error in the keys of a node (keyed). Conditions: the node lies in memory; at most 4096 keys.
-/
namespace Go.Proofs.Ytfbeepkogcmlmaa
open Go Go.ChangeShapes Go.WideShapes Go.ChangeAt Go.RowKit Go.Joins Go.Deep
set_option linter.unusedVariables false
set_option linter.unusedSimpArgs false

theorem key_str {a b : ByteArray} (h : a.data.toList = b.data.toList) : a = b := by
  cases a; cases b; simp at h ⊢; exact h
/-- Whether the byte 00 occurs. -/
def zeroB (s : ByteArray) : Bool := decide ((0 : UInt8) ∈ s.data.toList)
theorem zeroB_index (s : ByteArray) : zeroB s = decide (0 ≤ Lib.indexByte s.data.toList 0) := by
  have h := Lib.contains_iff_indexByte s.data.toList 0
  unfold zeroB
  simpa using h
set_option maxRecDepth 100000 in
theorem zero1_any (s : ByteArray) (w : World) : Calls Try.prog 59 #[.string s] w fun r w' => r = .returned (.bool (zeroB s)) ∧ w' = w := by
  have hc := Try.strings_IndexByte s 0 w
  rw [show ((0 : Int).toNat.toUInt8) = 0 from rfl] at hc
  have HE : Hid (zeroB s = decide (0 ≤ Lib.indexByte s.data.toList 0)) := zeroB_index s
  generalize Lib.indexByte s.data.toList 0 = q at *
  have HC := Lib.hid hc
  clear hc
  go_enter Try.func59, Try.ntmps59
  go_wp2_with fail
  refine HC.out.mono ?_
  rintro r w' ⟨rfl, rfl⟩
  go_wp2_with fail
  go_ret
  exact ⟨by rw [HE.out]; rfl, rfl⟩

/-- Whether a string occurs in a list. -/
def seenB (k : ByteArray) (l : List ByteArray) : Bool := l.any fun x => decide (x = k)
theorem seenB_iff (k : ByteArray) (l : List ByteArray) : seenB k l = true ↔ k ∈ l := by simp [seenB]
/-- The errors of a list of keys, those of had being there already. -/
def keysE : List ByteArray → List ByteArray → Int
  | _, [] => 0
  | had, k :: r => if zeroB k = true then 70 else if seenB k had = true then 71 else keysE (had ++ [k]) r
def keyedE : Tr → Int | .mk k n u s keys l => if k = 5 ∧ zeroB s = true then 70 else keysE [] keys

/-- The set of the keys seen, as a datum. -/
def SetD (l : List ByteArray) : DataW Unit := l.foldl (fun D k => D.put (.string k.data.toList) (.lit (.bool true))) (.map [])
theorem SetD_snoc (l : List ByteArray) (k : ByteArray) : SetD (l ++ [k]) = (SetD l).put (.string k.data.toList) (.lit (.bool true)) := by simp [SetD]
theorem put_map {H : Type} {D : DataW H} (h : Go.Maps.IsMap D) (k : Lit) (d : DataW H) : Go.Maps.IsMap (D.put k d) := by
  obtain ⟨es, rfl⟩ := h
  exact ⟨_, rfl⟩
theorem SetD_map (l : List ByteArray) : Go.Maps.IsMap (SetD l) := by
  unfold SetD
  suffices h : ∀ (l : List ByteArray) (D : DataW Unit), Go.Maps.IsMap D → Go.Maps.IsMap (l.foldl (fun D k => D.put (.string k.data.toList) (.lit (.bool true))) D) from h l _ ⟨[], rfl⟩
  intro l
  induction l with
  | nil => intro D h; exact h
  | cons k r ih => intro D h; exact ih _ (put_map h _ _)
theorem SetD_at (k : ByteArray) (l : List ByteArray) : (SetD l).atKey (.string k.data.toList) (.lit (.bool false)) = .lit (.bool (seenB k l)) := by
  obtain ⟨m, hm⟩ : ∃ m, m = l.length := ⟨_, rfl⟩
  induction m generalizing l with
  | zero =>
    obtain rfl := List.length_eq_zero_iff.1 hm.symm
    rfl
  | succ m ih =>
    obtain ⟨l, x, rfl⟩ : ∃ l' x, l = l' ++ [x] := ⟨l.dropLast, l.getLast (by intro e; subst e; simp at hm), (List.dropLast_concat_getLast _).symm⟩
    rw [SetD_snoc]
    by_cases e : k = x
    · subst e
      rw [Go.Maps.atKey_put_same (SetD_map l) (by simp [WideAt.IsKeyLit])]
      simp [seenB]
    · rw [Go.Maps.atKey_put_other (fun h => e (key_str (by injection h))), ih l (by simp at hm; omega)]
      simp [seenB, Ne.symm e, fun h => e (Eq.symm h)]
theorem plainElem_bool_inv {H : Type} {P : Program} {e : TypeId} (he : P.underlying e = some .bool) {v : Value} {z : DataW H × List MemPlace} (h : plainElem P e v = some z) : ∃ x, v = .bool x ∧ z = (.lit (.bool x), []) := by
  unfold plainElem at h
  rw [he] at h
  cases v <;> simp at h
  exact ⟨_, rfl, h.symm⟩
theorem wpList_lookup_own_bool {H : Type} {P : Program} (w : World) {ops : Array Oper} {rest : List Oper} {o : Oper} {a : Act} {Q : Exit → Act → World → Prop}
    (hg : o.guard = none) (m x : Operand) (t : TypeId) (hop : o.op = Op.lookup t m x false)
    (k e : TypeId) (K : Go.Maps.Keyed P k) (ht : P.underlying t = some (.map k e)) (he : P.underlying e = some .bool) (hz : (zeroValue e).run P w = .ok (.bool false) w) (b n : Nat) (D : DataW H)
    (hm : a.eval m = .map (some b)) (hown : w.ownsMap P k (plainElem P e) b n D) (key : Value) (kl : Lit) (hx : a.eval x = key) (hkey : keyOf P k key = some kl) (y : Bool) (hat : D.atKey kl (.lit (.bool false)) = .lit (.bool y))
    (hK : wpList P ops Q rest (a.put o.dst (.bool y)) w) :
    wpList P ops Q (o :: rest) a w := by
  refine wpList_plain hg fun K' hK' => ?_
  obtain ⟨v, ps, hrun, hv⟩ := hown.lookup K ht hz (plainElem_bool he false) hkey
  obtain ⟨c, rfl, hc⟩ := plainElem_bool_inv he hv
  simp only [Prod.mk.injEq] at hc
  rw [hat] at hc
  obtain ⟨hc, _⟩ := hc
  injection hc with hc
  injection hc with hc
  subst hc
  unfold Oper.wp
  simp [execOp, hop, hm, hx, hrun, Result.andThen]
  exact hK' _ _ hK
theorem keysE_take {keys : List ByteArray} {i : Nat} {x : ByteArray} (h : keys[i]? = some x) : keysE (keys.take i) (keys.drop i) = if zeroB x = true then 70 else if seenB x (keys.take i) = true then 71 else keysE (keys.take (i + 1)) (keys.drop (i + 1)) := by
  obtain ⟨hl, hx⟩ := List.getElem?_eq_some_iff.1 h
  rw [List.drop_eq_getElem_cons hl, hx]
  simp only [keysE]
  rw [List.take_add_one, h]
  rfl
set_option maxRecDepth 100000 in
set_option maxHeartbeats 2000000 in
theorem keyed_any (t : Tr) (v : Value) (w : World) (hn : NodeAt w t v) :
    Calls Try.prog 37 #[v] w fun r w' => r = .returned (.int .i64 (keyedE t)) ∧ Grew w w' := by
  obtain ⟨k, n, u, s, keys, l⟩ := t
  simp only [NodeAt] at hn
  obtain ⟨hb, kv, lv, vs, rfl, hks, hrows, hkids⟩ := hn
  have HKS := Lib.hid hks
  obtain ⟨a4, c4, rfl, hkc, hkm, hx3, hx4⟩ := hks
  obtain ⟨a5, c5, rfl, hll, hc5, hx5, hx6⟩ := hrows
  have hmm := @run_makeMap Try.prog
  have hk4 : keys.length ≤ 9223372036854775807 := by unfold lenok at hkm; omega
  clear hx3 hx4 hx5 hx6 hll hc5 hkids hkc hkm hb
  by_cases hz : k = 5 ∧ zeroB s = true
  · obtain ⟨rfl, hz⟩ := hz
    have HF : Hid (keyedE (.mk 5 n u s keys l) = 70) := by show _ = _; simp [keyedE, hz]
    go_enter Try.func37, Try.ntmps37
    go_wp2_with (go_at_call 59; refine (zero1_any _ _).mono ?_; rintro r w2 ⟨rfl, rfl⟩; rw [hz])
    go_ret
    exact ⟨by rw [HF.out]; rfl, (Grew.refl w).alloc _⟩
  have HF : Hid (keyedE (.mk k n u s keys l) = keysE [] keys) := by show _ = _; simp only [keyedE]; rw [if_neg hz]
  have hz5 : k = 5 → zeroB s = false := fun h => by simpa [h] using hz
  clear hz
  generalize keyedE (.mk k n u s keys l) = E at *
  by_cases h5 : k = 5
  · have hz := hz5 h5
    subst h5
    clear hz5
    go_enter Try.func37, Try.ntmps37
    go_wp2_with (go_at_call 59; refine (zero1_any _ _).mono ?_; rintro r w2 ⟨rfl, rfl⟩; rw [hz])
    go_loopw [20] (fun i wr => ∃ j : Nat, j ≤ keys.length ∧ i = .int .i64 j ∧ Hid (wr.ownsMap Try.prog 9 (plainElem Try.prog 4) (w.heap.size + 1) j (SetD (keys.take j)) ∧ Grew w wr ∧ keysE (keys.take j) (keys.drop j) = keysE [] keys)) (fun i _ => keys.length - (intOf i).toNat)
    case atStart =>
      refine ⟨0, Nat.zero_le _, rfl, ?_⟩
      show _ ∧ _ ∧ _
      exact ⟨by have := World.ownsMap_made (H := Unit) (w.alloc (.cells #[.int .i64 5, .int .i64 n, .int .u64 u, .string s, .slice a4 keys.length c4, .slice a5 vs.length c5] 26)) Try.prog 9 (plainElem Try.prog 4); rw [World.size_alloc] at this; exact this, ((Grew.refl w).alloc _).alloc _, rfl⟩
    case round =>
      obtain ⟨j, hj, rfl, HW⟩ := hrel
      by_cases hlt : j < keys.length
      · obtain ⟨x, hx⟩ : ∃ x, keys[j]? = some x := ⟨_, List.getElem?_eq_getElem hlt⟩
        have HT := Lib.hid (keysE_take hx)
        have HTK : Hid (keys.take j ++ [x] = keys.take (j + 1)) := by show _ = _; rw [List.take_add_one, hx]; rfl
        obtain ⟨lx, b, off, rfl, hcx⟩ : ∃ (lx : lenok x.size) (b off : Nat), a4 = some ⟨b, off, none⟩ ∧ wr.cell? ⟨b, off + j, none⟩ = some (.string x) := by
          obtain ⟨a, c, e, _, _, _, h⟩ := HKS.out
          injection e with e1 e2 e3
          subst e1
          obtain ⟨hx1, b, off, e, hc⟩ := h j x hx
          exact ⟨hx1, b, off, e, HW.out.2.1.cell hc⟩
        have hkey : Hid (keyOf Try.prog 9 (.string x) = some (.string x.data.toList)) := Go.WideMaps.keyOf_string_mk Try.underlying9 (by unfold lenok at lx; unfold maxLen; omega)
        clear hx lx
        have hlti : (j : Int) < keys.length := by omega
        by_cases h0 : zeroB x = true
        · have HF2 : Hid (E = 70) := by
            show _ = _
            rw [HF.out, ← HW.out.2.2, HT.out, if_pos h0]
          go_wp2_with (go_at_call 59; refine (zero1_any _ _).mono ?_; rintro r w2 ⟨rfl, rfl⟩; rw [h0])
          go_ret
          exact ⟨by rw [HF2.out]; rfl, HW.out.2.1⟩
        · have hz0 : zeroB x = false := by simpa using h0
          clear h0
          cases hs : seenB x (keys.take j)
          · have HS : Hid (keysE (keys.take j) (keys.drop j) = keysE (keys.take (j + 1)) (keys.drop (j + 1))) := by
              show _ = _
              rw [HT.out, hz0, hs]; rfl
            have HAT : Hid ((SetD (keys.take j)).atKey (.string x.data.toList) (.lit (.bool false)) = .lit (.bool false)) := by show _ = _; rw [SetD_at, hs]
            clear hs HT
            go_wp2_with (first
              | (go_at_call 59; refine (zero1_any _ _).mono ?_; rintro r w2 ⟨rfl, rfl⟩; rw [hz0])
              | (at_lookup; refine wpList_lookup_own_bool _ rfl _ _ 68 rfl 9 4 (Go.Maps.string_keyed Try.underlying9) Try.underlying68 Try.underlying4 (Try.zeroValue4 _) (w.heap.size + 1) j _ rfl HW.out.1 _ _ rfl hkey.out false HAT.out ?_)
              | (at_mapUpdate; refine wpList_mapUpdate_own _ rfl _ _ _ 68 rfl 9 4 (Go.Maps.string_keyed Try.underlying9) Try.underlying68 _ (w.heap.size + 1) j _ rfl HW.out.1 (by unfold maxLen; omega) _ _ _ rfl rfl hkey.out _ [] (plainElem_bool Try.underlying4 true) ?_; intro w1 hown1 hgrow1; have HN := Lib.hid (And.intro hown1 hgrow1); clear hown1 hgrow1))
            go_roundw
            case rel =>
              refine ⟨j + 1, by omega, by go_num, ?_⟩
              show _ ∧ _ ∧ _
              refine ⟨?_, ?_, by rw [← HS.out]; exact HW.out.2.2⟩
              · rw [← HTK.out, SetD_snoc]; exact HN.out.1
              · exact Below.grown HW.out.2.1 HN.out.2 HW.out.2.1.size (fun q e => by injection e with e; omega)
            case measure => simp [intOf]; omega
          · have HF2 : Hid (E = 71) := by
              show _ = _
              rw [HF.out, ← HW.out.2.2, HT.out, hz0, hs]; rfl
            have HAT : Hid ((SetD (keys.take j)).atKey (.string x.data.toList) (.lit (.bool false)) = .lit (.bool true)) := by show _ = _; rw [SetD_at, hs]
            clear hs HT
            go_wp2_with (first
              | (go_at_call 59; refine (zero1_any _ _).mono ?_; rintro r w2 ⟨rfl, rfl⟩; rw [hz0])
              | (at_lookup; refine wpList_lookup_own_bool _ rfl _ _ 68 rfl 9 4 (Go.Maps.string_keyed Try.underlying9) Try.underlying68 Try.underlying4 (Try.zeroValue4 _) (w.heap.size + 1) j _ rfl HW.out.1 _ _ rfl hkey.out true HAT.out ?_))
            go_ret
            exact ⟨by rw [HF2.out]; rfl, HW.out.2.1⟩
      · have ej : j = keys.length := by omega
        subst ej
        have HF2 : Hid (E = 0) := by
          show _ = _
          rw [HF.out, ← HW.out.2.2]
          simp [keysE]
        go_wp2_with fail
        go_ret
        exact ⟨by rw [HF2.out]; rfl, HW.out.2.1⟩
  · clear hz5
    go_enter Try.func37, Try.ntmps37
    go_wp2_with fail
    go_loopw [20] (fun i wr => ∃ j : Nat, j ≤ keys.length ∧ i = .int .i64 j ∧ Hid (wr.ownsMap Try.prog 9 (plainElem Try.prog 4) (w.heap.size + 1) j (SetD (keys.take j)) ∧ Grew w wr ∧ keysE (keys.take j) (keys.drop j) = keysE [] keys)) (fun i _ => keys.length - (intOf i).toNat)
    case atStart =>
      refine ⟨0, Nat.zero_le _, rfl, ?_⟩
      show _ ∧ _ ∧ _
      exact ⟨by have := World.ownsMap_made (H := Unit) (w.alloc (.cells #[.int .i64 k, .int .i64 n, .int .u64 u, .string s, .slice a4 keys.length c4, .slice a5 vs.length c5] 26)) Try.prog 9 (plainElem Try.prog 4); rw [World.size_alloc] at this; exact this, ((Grew.refl w).alloc _).alloc _, rfl⟩
    case round =>
      obtain ⟨j, hj, rfl, HW⟩ := hrel
      by_cases hlt : j < keys.length
      · obtain ⟨x, hx⟩ : ∃ x, keys[j]? = some x := ⟨_, List.getElem?_eq_getElem hlt⟩
        have HT := Lib.hid (keysE_take hx)
        have HTK : Hid (keys.take j ++ [x] = keys.take (j + 1)) := by show _ = _; rw [List.take_add_one, hx]; rfl
        obtain ⟨lx, b, off, rfl, hcx⟩ : ∃ (lx : lenok x.size) (b off : Nat), a4 = some ⟨b, off, none⟩ ∧ wr.cell? ⟨b, off + j, none⟩ = some (.string x) := by
          obtain ⟨a, c, e, _, _, _, h⟩ := HKS.out
          injection e with e1 e2 e3
          subst e1
          obtain ⟨hx1, b, off, e, hc⟩ := h j x hx
          exact ⟨hx1, b, off, e, HW.out.2.1.cell hc⟩
        have hkey : Hid (keyOf Try.prog 9 (.string x) = some (.string x.data.toList)) := Go.WideMaps.keyOf_string_mk Try.underlying9 (by unfold lenok at lx; unfold maxLen; omega)
        clear hx lx
        have hlti : (j : Int) < keys.length := by omega
        by_cases h0 : zeroB x = true
        · have HF2 : Hid (E = 70) := by
            show _ = _
            rw [HF.out, ← HW.out.2.2, HT.out, if_pos h0]
          go_wp2_with (go_at_call 59; refine (zero1_any _ _).mono ?_; rintro r w2 ⟨rfl, rfl⟩; rw [h0])
          go_ret
          exact ⟨by rw [HF2.out]; rfl, HW.out.2.1⟩
        · have hz0 : zeroB x = false := by simpa using h0
          clear h0
          cases hs : seenB x (keys.take j)
          · have HS : Hid (keysE (keys.take j) (keys.drop j) = keysE (keys.take (j + 1)) (keys.drop (j + 1))) := by
              show _ = _
              rw [HT.out, hz0, hs]; rfl
            have HAT : Hid ((SetD (keys.take j)).atKey (.string x.data.toList) (.lit (.bool false)) = .lit (.bool false)) := by show _ = _; rw [SetD_at, hs]
            clear hs HT
            go_wp2_with (first
              | (go_at_call 59; refine (zero1_any _ _).mono ?_; rintro r w2 ⟨rfl, rfl⟩; rw [hz0])
              | (at_lookup; refine wpList_lookup_own_bool _ rfl _ _ 68 rfl 9 4 (Go.Maps.string_keyed Try.underlying9) Try.underlying68 Try.underlying4 (Try.zeroValue4 _) (w.heap.size + 1) j _ rfl HW.out.1 _ _ rfl hkey.out false HAT.out ?_)
              | (at_mapUpdate; refine wpList_mapUpdate_own _ rfl _ _ _ 68 rfl 9 4 (Go.Maps.string_keyed Try.underlying9) Try.underlying68 _ (w.heap.size + 1) j _ rfl HW.out.1 (by unfold maxLen; omega) _ _ _ rfl rfl hkey.out _ [] (plainElem_bool Try.underlying4 true) ?_; intro w1 hown1 hgrow1; have HN := Lib.hid (And.intro hown1 hgrow1); clear hown1 hgrow1))
            go_roundw
            case rel =>
              refine ⟨j + 1, by omega, by go_num, ?_⟩
              show _ ∧ _ ∧ _
              refine ⟨?_, ?_, by rw [← HS.out]; exact HW.out.2.2⟩
              · rw [← HTK.out, SetD_snoc]; exact HN.out.1
              · exact Below.grown HW.out.2.1 HN.out.2 HW.out.2.1.size (fun q e => by injection e with e; omega)
            case measure => simp [intOf]; omega
          · have HF2 : Hid (E = 71) := by
              show _ = _
              rw [HF.out, ← HW.out.2.2, HT.out, hz0, hs]; rfl
            have HAT : Hid ((SetD (keys.take j)).atKey (.string x.data.toList) (.lit (.bool false)) = .lit (.bool true)) := by show _ = _; rw [SetD_at, hs]
            clear hs HT
            go_wp2_with (first
              | (go_at_call 59; refine (zero1_any _ _).mono ?_; rintro r w2 ⟨rfl, rfl⟩; rw [hz0])
              | (at_lookup; refine wpList_lookup_own_bool _ rfl _ _ 68 rfl 9 4 (Go.Maps.string_keyed Try.underlying9) Try.underlying68 Try.underlying4 (Try.zeroValue4 _) (w.heap.size + 1) j _ rfl HW.out.1 _ _ rfl hkey.out true HAT.out ?_))
            go_ret
            exact ⟨by rw [HF2.out]; rfl, HW.out.2.1⟩
      · have ej : j = keys.length := by omega
        subst ej
        have HF2 : Hid (E = 0) := by
          show _ = _
          rw [HF.out, ← HW.out.2.2]
          simp [keysE]
        go_wp2_with fail
        go_ret
        exact ⟨by rw [HF2.out]; rfl, HW.out.2.1⟩
end Go.Proofs.Ytfbeepkogcmlmaa

/-
  Keys: the comparison that Order sorts by. Conditions: the list lies in memory, the indices are in range.
-/
namespace Go.Proofs.Ytfbeepkogcmlmaa
open Go Go.ChangeShapes Go.WideShapes Go.ChangeAt Go.RowKit Go.Joins Go.Deep
set_option linter.unusedVariables false
set_option linter.unusedSimpArgs false

set_option maxRecDepth 100000 in
set_option maxHeartbeats 1000000 in
theorem order1_any (l : List ByteArray) (lv : Value) (bx i j : Nat) (x y : ByteArray) (hx : l[i]? = some x) (hy : l[j]? = some y) (W : World) (hs : StrsAt W lv l) (hb : W.cell? ⟨bx, 0, none⟩ = some lv) :
    Calls Try.prog 70 #[.int .i64 i, .int .i64 j, .pointer (some ⟨bx, 0, none⟩)] W fun e w' => e = .returned (.int .i64 (Lib.compareBytes x.data.toList y.data.toList)) ∧ ∃ q, w' = W.drewN q := by
  have hi : i < l.length := (List.getElem?_eq_some_iff.1 hx).1
  have hj : j < l.length := (List.getElem?_eq_some_iff.1 hy).1
  obtain ⟨a, c, rfl, hlc, hc, _, hcell⟩ := hs
  obtain ⟨_, b, off, rfl, h0⟩ := hcell i x hx
  obtain ⟨_, b', off', e, h1⟩ := hcell j y hy
  cases e
  have hcmp := Try.strings_Compare x y
  have HC := Lib.hid hcmp
  unfold lenok at hc
  have hii : (i : Int) < l.length := by omega
  have hji : (j : Int) < l.length := by omega
  clear hcell hx hy hcmp
  generalize Lib.compareBytes x.data.toList y.data.toList = q at *
  go_enter Try.func70, Try.ntmps70
  go_wp2_with fail
  go_quiet ((go_at_call 71; exact Calls.quiet_of_same (HC.out _)))
  go_wp2
  go_ret
  exact ⟨rfl, _, rfl⟩
end Go.Proofs.Ytfbeepkogcmlmaa

/-
  Keys: the order of byte strings, plain; the worlds that the sort passes through.
-/
namespace Go.Proofs.Ytfbeepkogcmlmaa
open Go Go.ChangeShapes Go.WideShapes Go.ChangeAt Go.RowKit Go.Joins Go.Deep
set_option linter.unusedVariables false
set_option linter.unusedSimpArgs false

abbrev cmpB := Lib.compareBytes
theorem cmpB_self : ∀ a : List UInt8, cmpB a a = 0
  | [] => rfl
  | x :: a => by
    show (if x < x then (-1 : Int) else if x < x then 1 else cmpB a a) = 0
    rw [if_neg (UInt8.lt_irrefl x), if_neg (UInt8.lt_irrefl x), cmpB_self a]
theorem cmpB_flip : ∀ a b : List UInt8, cmpB b a = - cmpB a b
  | [], [] => rfl
  | [], _ :: _ => rfl
  | _ :: _, [] => rfl
  | x :: a, y :: b => by
    show (if y < x then (-1 : Int) else if x < y then 1 else cmpB b a) = - (if x < y then (-1 : Int) else if y < x then 1 else cmpB a b)
    by_cases h1 : x < y
    · have h2 : ¬ y < x := fun h => UInt8.lt_irrefl _ (UInt8.lt_trans h1 h)
      rw [if_neg h2, if_pos h1, if_pos h1]; rfl
    · by_cases h2 : y < x
      · rw [if_pos h2, if_neg h1, if_pos h2]
      · rw [if_neg h2, if_neg h1, if_neg h1, if_neg h2]
        exact cmpB_flip a b
theorem cmpB_zero : ∀ a b : List UInt8, cmpB a b = 0 → a = b
  | [], [], _ => rfl
  | [], _ :: _, h => by simp [cmpB, Lib.compareBytes] at h
  | _ :: _, [], h => by simp [cmpB, Lib.compareBytes] at h
  | x :: a, y :: b, h => by
    have h' : (if x < y then (-1 : Int) else if y < x then 1 else cmpB a b) = 0 := h
    by_cases h1 : x < y
    · rw [if_pos h1] at h'; omega
    · by_cases h2 : y < x
      · rw [if_neg h1, if_pos h2] at h'; omega
      · rw [if_neg h1, if_neg h2] at h'
        have hxy : x = y := by
          apply UInt8.toNat_inj.1
          have q1 : ¬ x.toNat < y.toNat := fun h => h1 (UInt8.lt_iff_toNat_lt.2 h)
          have q2 : ¬ y.toNat < x.toNat := fun h => h2 (UInt8.lt_iff_toNat_lt.2 h)
          omega
        rw [hxy, cmpB_zero a b h']
theorem cmpB_trans : ∀ a b c : List UInt8, cmpB a b < 0 → cmpB b c < 0 → cmpB a c < 0
  | [], [], _, h, _ => by simp [cmpB, Lib.compareBytes] at h
  | [], _ :: _, [], _, h => by simp [cmpB, Lib.compareBytes] at h
  | [], _ :: _, _ :: _, _, _ => by simp [cmpB, Lib.compareBytes]
  | _ :: _, [], _, h, _ => by simp [cmpB, Lib.compareBytes] at h
  | _ :: _, _ :: _, [], _, h => by simp [cmpB, Lib.compareBytes] at h
  | x :: a, y :: b, z :: c, h, g => by
    have h' : (if x < y then (-1 : Int) else if y < x then 1 else cmpB a b) < 0 := h
    have g' : (if y < z then (-1 : Int) else if z < y then 1 else cmpB b c) < 0 := g
    show (if x < z then (-1 : Int) else if z < x then 1 else cmpB a c) < 0
    simp only [UInt8.lt_iff_toNat_lt] at *
    by_cases h1 : x.toNat < y.toNat
    · by_cases g1 : y.toNat < z.toNat
      · rw [if_pos (by omega)]; omega
      · by_cases g2 : z.toNat < y.toNat
        · rw [if_neg g1, if_pos g2] at g'; omega
        · rw [if_pos (by omega)]; omega
    · by_cases h2 : y.toNat < x.toNat
      · rw [if_neg h1, if_pos h2] at h'; omega
      · rw [if_neg h1, if_neg h2] at h'
        by_cases g1 : y.toNat < z.toNat
        · rw [if_pos (by omega)]; omega
        · by_cases g2 : z.toNat < y.toNat
          · rw [if_neg g1, if_pos g2] at g'; omega
          · rw [if_neg g1, if_neg g2] at g'
            rw [if_neg (by omega), if_neg (by omega)]
            exact cmpB_trans a b c h' g'
/-- a precedes b bytewise. -/
def ltS (a b : ByteArray) : Bool := decide (cmpB a.data.toList b.data.toList < 0)
theorem ltS_irrefl (a : ByteArray) : ltS a a = false := by simp [ltS, cmpB_self]
theorem ltS_trans {a b c : ByteArray} (h : ltS a b = true) (g : ltS b c = true) : ltS a c = true := by
  simp only [ltS, decide_eq_true_eq] at *
  exact cmpB_trans _ _ _ h g
theorem ltS_total {a b : ByteArray} (h : ltS a b = false) (g : ltS b a = false) : a = b := by
  simp only [ltS, decide_eq_false_iff_not] at *
  have hf := cmpB_flip a.data.toList b.data.toList
  exact bytes_inj (cmpB_zero _ _ (by omega))
theorem ltS_ntrans {a b c : ByteArray} (h : ltS a b = false) (g : ltS b c = false) : ltS a c = false := by
  cases hc : ltS a c with
  | false => rfl
  | true =>
    exfalso
    cases hb : ltS b a with
    | true => have := ltS_trans hb hc; rw [g] at this; cases this
    | false =>
      have e := ltS_total h hb
      subst e
      rw [g] at hc; cases hc
theorem moved_sort {α : Type} [Inhabited α] (enc : α → Value) (w : World) (blk off m : Nat) (dk : Array α) (os : Array Obj) : Moved (fun k => k = blk) w (sortWorld enc w blk off m dk os) := by
  refine ⟨rfl, rfl, rfl, ?_, fun k hk hne => ?_⟩
  · simp [sortWorld, Go.Sort.grow, Go.Sort.putRow, Go.Sort.mapBlock, Go.Sort.ahead]
  · simp only [sortWorld, Go.Sort.grow, Go.Sort.putRow, Go.Sort.mapBlock, Go.Sort.ahead]
    rw [Array.getElem?_append_left (by simpa using hk), Array.getElem?_modify, if_neg (fun e => hne e.symm)]
end Go.Proofs.Ytfbeepkogcmlmaa

/-
  Keys: the library's sort at Order's comparison. Conditions: the list and the row of indices lie in memory, in different blocks.
-/
namespace Go.Proofs.Ytfbeepkogcmlmaa
open Go Go.ChangeShapes Go.WideShapes Go.ChangeAt Go.RowKit Go.Joins Go.Deep
set_option linter.unusedVariables false
set_option linter.unusedSimpArgs false

theorem extract_whole {α : Type} (a : Array α) (n : Nat) (h : a.size = n) : a.extract 0 n = a := by subst h; simp
/-- An index as its cell. -/
def encF {n : Nat} (x : Fin n) : Value := .int .i64 ((x.1 : Nat) : Int)
/-- The comparison of two indices. -/
def cfF (l : List ByteArray) (x y : Fin l.length) : Int := cmpB l[x].data.toList l[y].data.toList
theorem swo_cfF (l : List ByteArray) : Go.Sort.SWO (ltOf (cfF l)) where
  irrefl x := ltS_irrefl l[x]
  trans x y z h g := ltS_trans (a := l[x]) (b := l[y]) (c := l[z]) h g
  ntrans x y z h g := ltS_ntrans (a := l[x]) (b := l[y]) (c := l[z]) h g
theorem StrsAt.moved {S : Nat → Prop} {w w' : World} {v : Value} {ks : List ByteArray} (h : StrsAt w v ks) (hm : Moved S w w') (hS : ∀ a n c, v = .slice (some a) n c → ¬ S a.block) : StrsAt w' v ks := by
  obtain ⟨a, c, rfl, h2, h3, h4, h5⟩ := h
  refine ⟨a, c, rfl, h2, h3, h4, fun i s hs => ?_⟩
  obtain ⟨hz, b, off, e, hc⟩ := h5 i s hs
  subst e
  exact ⟨hz, b, off, rfl, hm.cell (p := ⟨b, off + i, none⟩) hc (hS ⟨b, off, none⟩ _ _ rfl)⟩
set_option maxRecDepth 100000 in
theorem sortfunc_any (l : List ByteArray) (h0 : 0 < l.length) (hl : l.length ≤ 1099511627776) (lv : Value) (bx blk : Nat) (w : World) (hs : StrsAt w lv l) (hb : w.cell? ⟨bx, 0, none⟩ = some lv) (hbx : bx ≠ blk) (hlv : ∀ a n c, lv = .slice (some a) n c → a.block ≠ blk)
    (hrow : ∀ j, j < l.length → w.cell? ⟨blk, j, none⟩ = some (.int .i64 (j : Int)) ∧ w.frozen? ⟨blk, j, none⟩ = false) (hblk : blk < w.heap.size) (cap : Nat) :
    Calls Try.prog 69 #[.slice (some ⟨blk, 0, none⟩) l.length cap, .func (.func 70) #[] #[.pointer (some ⟨bx, 0, none⟩)]] w fun r w' =>
      r = .returned (.tuple #[]) ∧ ∃ p : List (Fin l.length), p.Perm (List.finRange l.length) ∧ (∀ (i j : Nat) x y, i < j → p[i]? = some x → p[j]? = some y → ltS l[y] l[x] = false) ∧ (∀ (i : Nat) (x : Fin l.length), p[i]? = some x → w'.cell? ⟨blk, i, none⟩ = some (.int .i64 ((x.1 : Nat) : Int))) ∧ Moved (fun k => k = blk) w w' := by
  have : Inhabited (Fin l.length) := ⟨⟨0, h0⟩⟩
  have eg : ∀ args w, (callFunc 70 args).run Try.prog w = .ok (.enter 70 args) w := enters_of Try.func70 (by kernel_rfl) rfl
  have hd : ((List.finRange l.length).toArray).size = l.length := by simp
  have hcmp : CmpLays1 Try.prog 70 #[.pointer (some ⟨bx, 0, none⟩)] encF (cfF l) blk 0 ((List.finRange l.length).toArray).size w := by
    refine CmpReads.lays fun m os dk hk x y => ?_
    have hm := moved_sort (encF (n := l.length)) w blk 0 m dk os
    exact order1_any l lv bx x.1 y.1 l[x] l[y] (List.getElem?_eq_getElem x.2) (List.getElem?_eq_getElem y.2) _ (hs.moved hm (fun a n c e => hlv a n c e)) (hm.cell hb hbx)
  have hH : Go.Sort.Holds (encF (n := l.length)) w blk 0 (List.finRange l.length).toArray := by
    intro j hj
    rw [hd] at hj
    rw [getElem!_pos _ j (by simpa using hj), Nat.zero_add]
    simpa [encF] using hrow j hj
  have hcon := Try.slices_SortFunc (encF (n := l.length)) (fun _ => rfl) (cfF l) (swo_cfF l) 70 #[.pointer (some ⟨bx, 0, none⟩)] blk 0 cap (List.finRange l.length).toArray w eg hcmp hH hblk (by rw [hd]; omega)
  rw [hd] at hcon
  refine hcon.mono ?_
  rintro r w' ⟨rfl, d', n, os, hp, hsd, rfl⟩
  obtain ⟨hsz, _, hperm⟩ := hp
  have hdn : d'.size = l.length := hsz.trans hd
  refine ⟨rfl, d'.toList, ?_, fun i j x y hij hx hy => ?_, fun i x hx => ?_, moved_sort _ w blk 0 n d' os⟩
  · have e1 : d'.extract 0 l.length = d' := extract_whole _ _ hdn
    have e2 : (List.finRange l.length).toArray.extract 0 l.length = (List.finRange l.length).toArray := extract_whole _ _ hd
    rw [e1, e2] at hperm
    simpa using hperm
  · have hj := (List.getElem?_eq_some_iff.1 hy).1
    have hi := (List.getElem?_eq_some_iff.1 hx).1
    have h := hsd i j (Nat.zero_le _) hij (by simpa [hdn] using hj)
    rw [getElem!_pos d' j (by simpa using hj), getElem!_pos d' i (by simpa using hi)] at h
    have ex : d'[i]'(by simpa using hi) = x := by have := (List.getElem?_eq_some_iff.1 hx).2; simpa using this
    have ey : d'[j]'(by simpa using hj) = y := by have := (List.getElem?_eq_some_iff.1 hy).2; simpa using this
    rw [ex, ey] at h
    exact h
  · have hi := (List.getElem?_eq_some_iff.1 hx).1
    have h := (Go.Proofs.holds_sortWorld (encF (n := l.length)) w blk 0 n _ d' os hblk hH hsz i (by simpa using hi)).1
    rw [getElem!_pos d' i (by simpa using hi)] at h
    have ex : d'[i]'(by simpa using hi) = x := by have := (List.getElem?_eq_some_iff.1 hx).2; simpa using this
    rw [ex, Nat.zero_add] at h
    exact h
end Go.Proofs.Ytfbeepkogcmlmaa
