/-
  FitKnown: the fits hold at the ends of the widths, and at all odd types and widths.
-/
import Derived.Test.YtkabfefphdgppaaRows
import Derived.Test.YtkabfefphdgppaaFitOnes
import Derived.Test.YtkabfefphdgppaaFitAlls
import Derived.ProofKit
import Derived.OpenShut
import Derived.ShutString
import Derived.ChangeOld
import Derived.Below
import Derived.Lib.SmallJoins
namespace Go.Proofs.Ytkabfefphdgppaa
open Go Go.ChangeShapes Go.WideShapes Go.ChangeAt Go.RowKit Go.Joins
open Go.ChangeMaps (open_string shut_string)
set_option linter.unusedVariables false
set_option linter.unusedSimpArgs false

theorem ints_cell (w : World) (l : List Int) (t : TypeId) (k : Nat) (hk : k < l.length) : ∃ e, (w.alloc (.cells (l.map (Value.int .i64)).toArray t)).cell? ⟨w.heap.size, k, none⟩ = some (.int .i64 e) := by
  refine ⟨l[k], ?_⟩
  rw [cell_of_row _ _ _ _ _ _ (heap_alloc_new _ _)]
  simp [hk]
theorem ok_three (m : Int) (m0 : 0 ≤ m) (m1 : m ≤ 18446744073709551615) : ∀ x ∈ [((5 : Int), (1 : Int), (0 : Int)), (1, 2, 0), (5, 1, m)], okV x := by
  intro x hx
  simp only [List.mem_cons, List.not_mem_nil, or_false] at hx
  rcases hx with rfl | rfl | rfl
  · exact ⟨by decide, by decide⟩
  · exact ⟨by decide, by decide⟩
  · exact ⟨m0, m1⟩
theorem full_ok (a : Addr) (n : Nat) : SliceOK (.slice (some a) n n) := fun _ _ _ e => by cases e; exact ⟨by omega, fun h => by cases h⟩
theorem nil_ok : SliceOK (.slice none 0 0) := fun _ _ _ e => by cases e; exact ⟨by omega, fun _ => rfl⟩
theorem ok_one3 (a b m : Int) (m0 : 0 ≤ m) (m1 : m ≤ 18446744073709551615) : ∀ x ∈ [(a, b, m)], okV x := by
  intro x hx
  simp only [List.mem_cons, List.not_mem_nil, or_false] at hx
  subst hx
  exact ⟨m0, m1⟩
theorem valsOK_st (l : List V3) : ∀ (v : Value) (w w' : World), Grew w w' → ValsAt w v l ∧ SliceOK v → ValsAt w' v l ∧ SliceOK v := fun _ _ _ hg h => ⟨h.1.grew hg, h.2⟩
theorem ok_single (m : Int) (m0 : 0 ≤ m) (m1 : m ≤ 18446744073709551615) : ∀ x ∈ [((5 : Int), (1 : Int), m)], okV x := by
  intro x hx
  simp only [List.mem_cons, List.not_mem_nil, or_false] at hx
  subst hx
  exact ⟨m0, m1⟩
set_option maxRecDepth 100000 in
set_option maxHeartbeats 4000000 in
theorem fitKnown_any (w : World) :
    Calls Try.prog 10 #[] w fun e w' => e = .returned (.bool true) ∧ Grew w w' := by
  go_enter Try.func10, Try.ntmps10
  go_wp2_with fail
  obtain ⟨w1, hw1⟩ : ∃ w1, w1 = w.alloc (.cells #[.int .i64 0, .int .i64 1, .int .i64 7, .int .i64 8, .int .i64 250, .int .i64 251, .int .i64 252, .int .i64 253, .int .i64 254, .int .i64 255, .int .i64 256, .int .i64 257, .int .i64 65527, .int .i64 65528, .int .i64 65531, .int .i64 65532, .int .i64 65533, .int .i64 65534, .int .i64 65535, .int .i64 65536, .int .i64 65537, .int .i64 1073741823, .int .i64 1073741824] 3) := ⟨_, rfl⟩
  have hc : Hid (∀ k, k < 23 → ∃ e, w1.cell? ⟨w.heap.size, k, none⟩ = some (.int .i64 e)) := by
    intro k hk
    rw [hw1]
    exact ints_cell w [0, 1, 7, 8, 250, 251, 252, 253, 254, 255, 256, 257, 65527, 65528, 65531, 65532, 65533, 65534, 65535, 65536, 65537, 1073741823, 1073741824] 3 k hk
  have g1 : Grew w w1 := by rw [hw1]; exact (Grew.refl w).alloc _
  rw [← hw1]
  clear hw1
  go_loopw [2] (fun i wr => Grew w1 wr ∧ ∃ k : Nat, k ≤ 23 ∧ i = .int .i64 k) (fun i _ => 23 - (intOf i).toNat)
  case atStart => exact ⟨Grew.refl _, 0, by omega, rfl⟩
  case round =>
    obtain ⟨hg, k, hk1, rfl⟩ := hrel
    by_cases hlt : k < 23
    · obtain ⟨e, he⟩ := hc.out k hlt
      obtain ⟨wo, rfl⟩ : ∃ wo : World, wo = wr := ⟨_, rfl⟩
      go_wp2_with fail
      rw [show decide ((k : Int) < 23) = true from decide_eq_true (by omega)]
      go_loopw [3] (fun i wr => Grew wo wr ∧ ∃ j : Nat, j ≤ 5 ∧ i = .int .i64 j) (fun i _ => 5 - (intOf i).toNat)
      case atStart => exact ⟨Grew.refl _, 0, by omega, rfl⟩
      case round =>
        obtain ⟨hg2, j, hj1, rfl⟩ := hrel
        by_cases hltj : j < 5
        · obtain ⟨wp, rfl⟩ : ∃ wp : World, wp = wr := ⟨_, rfl⟩
          go_wp2_with fail
          rw [show decide ((j : Int) < 5) = true from decide_eq_true (by omega)]
          go_loopw [4] (fun i wr => Grew wp wr ∧ ∃ m : Nat, m ≤ 3 ∧ i = .int .u64 m) (fun i _ => 3 - (intOf i).toNat)
          case atStart => exact ⟨Grew.refl _, 0, by omega, rfl⟩
          case round =>
            obtain ⟨hg3, m, hm1, rfl⟩ := hrel
            have hgg := (hg.trans hg2).trans hg3
            have ce := hgg.cell he
            by_cases hltm : m < 3
            · have m0 : (0 : Int) ≤ m := by omega
              have m1 : (m : Int) ≤ 18446744073709551615 := by omega
              go_wp2_with fail
              rw [show decide ((m : Int) < 3) = true from decide_eq_true (by omega)]
              refine wp_region_tables Grew [[], [0], [], [], [2, 3], [4], [], [1, 5, 6], [7], [8], [9], [9], [9, 10, 11], [9, 12], [9], [9, 13, 14], [9], [9, 16], [9], [9], [9], [9, 20], [9, 18, 19, 21], [9, 15, 17, 22], [9, 23], [9, 24], [25], [26], [26], [26, 27, 28], [26, 29], [26], [26, 30, 31], [26], [26], [26, 34], [26, 35], [26, 32, 33, 36], [26, 37], [26, 38]] [[(26, 2), (27, 3), (28, 4), (29, 5), (30, 6), (31, 7), (32, 8), (33, 9), (34, 10), (35, 11), (36, 12), (37, 13), (38, 14), (39, 15), (40, 16), (41, 17), (42, 18), (43, 19), (44, 20), (45, 21), (46, 22), (47, 23), (48, 24), (49, 25), (50, 26), (51, 27), (52, 28), (53, 29), (54, 30), (55, 31), (56, 32), (57, 33), (58, 34), (59, 35), (60, 36), (61, 37), (62, 38), (63, 39)], [(24, 0), (26, 2), (27, 3), (28, 4), (29, 5), (30, 6), (32, 8), (33, 9), (34, 10), (35, 11), (36, 12), (37, 13), (38, 14), (39, 15), (40, 16), (41, 17), (42, 18), (43, 19), (44, 20), (45, 21), (46, 22), (47, 23), (48, 24), (49, 25), (50, 26), (51, 27), (52, 28), (53, 29), (54, 30), (55, 31), (56, 32), (57, 33), (58, 34), (59, 35), (60, 36), (61, 37), (62, 38), (63, 39)], [(24, 0), (25, 1), (27, 3), (29, 5), (30, 6), (31, 7), (32, 8), (33, 9), (34, 10), (35, 11), (36, 12), (37, 13), (38, 14), (39, 15), (40, 16), (41, 17), (42, 18), (43, 19), (44, 20), (45, 21), (46, 22), (47, 23), (48, 24), (49, 25), (50, 26), (51, 27), (52, 28), (53, 29), (54, 30), (55, 31), (56, 32), (57, 33), (58, 34), (59, 35), (60, 36), (61, 37), (62, 38), (63, 39)], [(24, 0), (25, 1), (26, 2), (29, 5), (30, 6), (31, 7), (32, 8), (33, 9), (34, 10), (35, 11), (36, 12), (37, 13), (38, 14), (39, 15), (40, 16), (41, 17), (42, 18), (43, 19), (44, 20), (45, 21), (46, 22), (47, 23), (48, 24), (49, 25), (50, 26), (51, 27), (52, 28), (53, 29), (54, 30), (55, 31), (56, 32), (57, 33), (58, 34), (59, 35), (60, 36), (61, 37), (62, 38), (63, 39)], [(24, 0), (25, 1), (26, 2), (27, 3), (30, 6), (31, 7), (32, 8), (33, 9), (34, 10), (35, 11), (36, 12), (37, 13), (38, 14), (39, 15), (40, 16), (41, 17), (42, 18), (43, 19), (44, 20), (45, 21), (46, 22), (47, 23), (48, 24), (49, 25), (50, 26), (51, 27), (52, 28), (53, 29), (54, 30), (55, 31), (56, 32), (57, 33), (58, 34), (59, 35), (60, 36), (61, 37), (62, 38), (63, 39)], [(24, 0), (25, 1), (26, 2), (27, 3), (28, 4), (30, 6), (32, 8), (33, 9), (34, 10), (35, 11), (36, 12), (37, 13), (38, 14), (39, 15), (40, 16), (41, 17), (42, 18), (43, 19), (44, 20), (45, 21), (46, 22), (47, 23), (48, 24), (49, 25), (50, 26), (51, 27), (52, 28), (53, 29), (54, 30), (55, 31), (56, 32), (57, 33), (58, 34), (59, 35), (60, 36), (61, 37), (62, 38), (63, 39)], [(24, 0), (25, 1), (26, 2), (27, 3), (28, 4), (29, 5), (32, 8), (33, 9), (34, 10), (35, 11), (36, 12), (37, 13), (38, 14), (39, 15), (40, 16), (41, 17), (42, 18), (43, 19), (44, 20), (45, 21), (46, 22), (47, 23), (48, 24), (49, 25), (50, 26), (51, 27), (52, 28), (53, 29), (54, 30), (55, 31), (56, 32), (57, 33), (58, 34), (59, 35), (60, 36), (61, 37), (62, 38), (63, 39)], [(24, 0), (25, 1), (26, 2), (27, 3), (28, 4), (29, 5), (30, 6), (33, 9), (34, 10), (35, 11), (36, 12), (37, 13), (38, 14), (39, 15), (40, 16), (41, 17), (42, 18), (43, 19), (44, 20), (45, 21), (46, 22), (47, 23), (48, 24), (49, 25), (50, 26), (51, 27), (52, 28), (53, 29), (54, 30), (55, 31), (56, 32), (57, 33), (58, 34), (59, 35), (60, 36), (61, 37), (62, 38), (63, 39)], [(24, 0), (25, 1), (26, 2), (27, 3), (28, 4), (29, 5), (30, 6), (31, 7), (34, 10), (35, 11), (36, 12), (37, 13), (38, 14), (39, 15), (40, 16), (41, 17), (42, 18), (43, 19), (44, 20), (45, 21), (46, 22), (47, 23), (48, 24), (49, 25), (50, 26), (51, 27), (52, 28), (53, 29), (54, 30), (55, 31), (56, 32), (57, 33), (58, 34), (59, 35), (60, 36), (61, 37), (62, 38), (63, 39)], [(24, 0), (25, 1), (26, 2), (27, 3), (28, 4), (29, 5), (30, 6), (31, 7), (32, 8), (50, 26), (51, 27), (52, 28), (53, 29), (54, 30), (55, 31), (56, 32), (57, 33), (58, 34), (59, 35), (60, 36), (61, 37), (62, 38), (63, 39)], [(24, 0), (25, 1), (26, 2), (27, 3), (28, 4), (29, 5), (30, 6), (31, 7), (32, 8), (33, 9), (35, 11), (37, 13), (38, 14), (39, 15), (40, 16), (41, 17), (42, 18), (43, 19), (44, 20), (45, 21), (46, 22), (47, 23), (48, 24), (49, 25), (50, 26), (51, 27), (52, 28), (53, 29), (54, 30), (55, 31), (56, 32), (57, 33), (58, 34), (59, 35), (60, 36), (61, 37), (62, 38), (63, 39)], [(24, 0), (25, 1), (26, 2), (27, 3), (28, 4), (29, 5), (30, 6), (31, 7), (32, 8), (33, 9), (34, 10), (37, 13), (38, 14), (39, 15), (40, 16), (41, 17), (42, 18), (43, 19), (44, 20), (45, 21), (46, 22), (47, 23), (48, 24), (49, 25), (50, 26), (51, 27), (52, 28), (53, 29), (54, 30), (55, 31), (56, 32), (57, 33), (58, 34), (59, 35), (60, 36), (61, 37), (62, 38), (63, 39)], [(24, 0), (25, 1), (26, 2), (27, 3), (28, 4), (29, 5), (30, 6), (31, 7), (32, 8), (33, 9), (34, 10), (35, 11), (38, 14), (39, 15), (40, 16), (41, 17), (42, 18), (43, 19), (44, 20), (45, 21), (46, 22), (47, 23), (48, 24), (49, 25), (50, 26), (51, 27), (52, 28), (53, 29), (54, 30), (55, 31), (56, 32), (57, 33), (58, 34), (59, 35), (60, 36), (61, 37), (62, 38), (63, 39)], [(24, 0), (25, 1), (26, 2), (27, 3), (28, 4), (29, 5), (30, 6), (31, 7), (32, 8), (33, 9), (34, 10), (35, 11), (36, 12), (38, 14), (40, 16), (41, 17), (42, 18), (43, 19), (44, 20), (45, 21), (46, 22), (47, 23), (48, 24), (49, 25), (50, 26), (51, 27), (52, 28), (53, 29), (54, 30), (55, 31), (56, 32), (57, 33), (58, 34), (59, 35), (60, 36), (61, 37), (62, 38), (63, 39)], [(24, 0), (25, 1), (26, 2), (27, 3), (28, 4), (29, 5), (30, 6), (31, 7), (32, 8), (33, 9), (34, 10), (35, 11), (36, 12), (37, 13), (40, 16), (41, 17), (42, 18), (43, 19), (44, 20), (45, 21), (46, 22), (47, 23), (48, 24), (49, 25), (50, 26), (51, 27), (52, 28), (53, 29), (54, 30), (55, 31), (56, 32), (57, 33), (58, 34), (59, 35), (60, 36), (61, 37), (62, 38), (63, 39)], [(24, 0), (25, 1), (26, 2), (27, 3), (28, 4), (29, 5), (30, 6), (31, 7), (32, 8), (33, 9), (34, 10), (35, 11), (36, 12), (37, 13), (38, 14), (40, 16), (41, 17), (42, 18), (43, 19), (44, 20), (45, 21), (46, 22), (48, 24), (49, 25), (50, 26), (51, 27), (52, 28), (53, 29), (54, 30), (55, 31), (56, 32), (57, 33), (58, 34), (59, 35), (60, 36), (61, 37), (62, 38), (63, 39)], [(24, 0), (25, 1), (26, 2), (27, 3), (28, 4), (29, 5), (30, 6), (31, 7), (32, 8), (33, 9), (34, 10), (35, 11), (36, 12), (37, 13), (38, 14), (39, 15), (42, 18), (43, 19), (44, 20), (45, 21), (46, 22), (47, 23), (48, 24), (49, 25), (50, 26), (51, 27), (52, 28), (53, 29), (54, 30), (55, 31), (56, 32), (57, 33), (58, 34), (59, 35), (60, 36), (61, 37), (62, 38), (63, 39)], [(24, 0), (25, 1), (26, 2), (27, 3), (28, 4), (29, 5), (30, 6), (31, 7), (32, 8), (33, 9), (34, 10), (35, 11), (36, 12), (37, 13), (38, 14), (39, 15), (40, 16), (42, 18), (43, 19), (44, 20), (45, 21), (46, 22), (48, 24), (49, 25), (50, 26), (51, 27), (52, 28), (53, 29), (54, 30), (55, 31), (56, 32), (57, 33), (58, 34), (59, 35), (60, 36), (61, 37), (62, 38), (63, 39)], [(24, 0), (25, 1), (26, 2), (27, 3), (28, 4), (29, 5), (30, 6), (31, 7), (32, 8), (33, 9), (34, 10), (35, 11), (36, 12), (37, 13), (38, 14), (39, 15), (40, 16), (41, 17), (43, 19), (44, 20), (45, 21), (47, 23), (48, 24), (49, 25), (50, 26), (51, 27), (52, 28), (53, 29), (54, 30), (55, 31), (56, 32), (57, 33), (58, 34), (59, 35), (60, 36), (61, 37), (62, 38), (63, 39)], [(24, 0), (25, 1), (26, 2), (27, 3), (28, 4), (29, 5), (30, 6), (31, 7), (32, 8), (33, 9), (34, 10), (35, 11), (36, 12), (37, 13), (38, 14), (39, 15), (40, 16), (41, 17), (42, 18), (44, 20), (45, 21), (47, 23), (48, 24), (49, 25), (50, 26), (51, 27), (52, 28), (53, 29), (54, 30), (55, 31), (56, 32), (57, 33), (58, 34), (59, 35), (60, 36), (61, 37), (62, 38), (63, 39)], [(24, 0), (25, 1), (26, 2), (27, 3), (28, 4), (29, 5), (30, 6), (31, 7), (32, 8), (33, 9), (34, 10), (35, 11), (36, 12), (37, 13), (38, 14), (39, 15), (40, 16), (41, 17), (42, 18), (43, 19), (46, 22), (47, 23), (48, 24), (49, 25), (50, 26), (51, 27), (52, 28), (53, 29), (54, 30), (55, 31), (56, 32), (57, 33), (58, 34), (59, 35), (60, 36), (61, 37), (62, 38), (63, 39)], [(24, 0), (25, 1), (26, 2), (27, 3), (28, 4), (29, 5), (30, 6), (31, 7), (32, 8), (33, 9), (34, 10), (35, 11), (36, 12), (37, 13), (38, 14), (39, 15), (40, 16), (41, 17), (42, 18), (43, 19), (44, 20), (47, 23), (48, 24), (49, 25), (50, 26), (51, 27), (52, 28), (53, 29), (54, 30), (55, 31), (56, 32), (57, 33), (58, 34), (59, 35), (60, 36), (61, 37), (62, 38), (63, 39)], [(24, 0), (25, 1), (26, 2), (27, 3), (28, 4), (29, 5), (30, 6), (31, 7), (32, 8), (33, 9), (34, 10), (35, 11), (36, 12), (37, 13), (38, 14), (39, 15), (40, 16), (41, 17), (42, 18), (43, 19), (44, 20), (45, 21), (48, 24), (49, 25), (50, 26), (51, 27), (52, 28), (53, 29), (54, 30), (55, 31), (56, 32), (57, 33), (58, 34), (59, 35), (60, 36), (61, 37), (62, 38), (63, 39)], [(24, 0), (25, 1), (26, 2), (27, 3), (28, 4), (29, 5), (30, 6), (31, 7), (32, 8), (33, 9), (34, 10), (35, 11), (36, 12), (37, 13), (38, 14), (39, 15), (40, 16), (41, 17), (42, 18), (43, 19), (44, 20), (45, 21), (46, 22), (49, 25), (50, 26), (51, 27), (52, 28), (53, 29), (54, 30), (55, 31), (56, 32), (57, 33), (58, 34), (59, 35), (60, 36), (61, 37), (62, 38), (63, 39)], [(24, 0), (25, 1), (26, 2), (27, 3), (28, 4), (29, 5), (30, 6), (31, 7), (32, 8), (33, 9), (34, 10), (35, 11), (36, 12), (37, 13), (38, 14), (39, 15), (40, 16), (41, 17), (42, 18), (43, 19), (44, 20), (45, 21), (46, 22), (47, 23), (50, 26), (51, 27), (52, 28), (53, 29), (54, 30), (55, 31), (56, 32), (57, 33), (58, 34), (59, 35), (60, 36), (61, 37), (62, 38), (63, 39)], [(24, 0), (25, 1), (26, 2), (27, 3), (28, 4), (29, 5), (30, 6), (31, 7), (32, 8), (33, 9), (34, 10), (35, 11), (36, 12), (37, 13), (38, 14), (39, 15), (40, 16), (41, 17), (42, 18), (43, 19), (44, 20), (45, 21), (46, 22), (47, 23), (48, 24), (51, 27), (52, 28), (53, 29), (54, 30), (55, 31), (56, 32), (57, 33), (58, 34), (59, 35), (60, 36), (61, 37), (62, 38), (63, 39)], [(24, 0), (25, 1), (26, 2), (27, 3), (28, 4), (29, 5), (30, 6), (31, 7), (32, 8), (33, 9), (34, 10), (35, 11), (36, 12), (37, 13), (38, 14), (39, 15), (40, 16), (41, 17), (42, 18), (43, 19), (44, 20), (45, 21), (46, 22), (47, 23), (48, 24), (49, 25)], [(24, 0), (25, 1), (26, 2), (27, 3), (28, 4), (29, 5), (30, 6), (31, 7), (32, 8), (33, 9), (34, 10), (35, 11), (36, 12), (37, 13), (38, 14), (39, 15), (40, 16), (41, 17), (42, 18), (43, 19), (44, 20), (45, 21), (46, 22), (47, 23), (48, 24), (49, 25), (50, 26), (52, 28), (54, 30), (55, 31), (56, 32), (57, 33), (58, 34), (59, 35), (60, 36), (61, 37), (62, 38), (63, 39)], [(24, 0), (25, 1), (26, 2), (27, 3), (28, 4), (29, 5), (30, 6), (31, 7), (32, 8), (33, 9), (34, 10), (35, 11), (36, 12), (37, 13), (38, 14), (39, 15), (40, 16), (41, 17), (42, 18), (43, 19), (44, 20), (45, 21), (46, 22), (47, 23), (48, 24), (49, 25), (50, 26), (51, 27), (54, 30), (55, 31), (56, 32), (57, 33), (58, 34), (59, 35), (60, 36), (61, 37), (62, 38), (63, 39)], [(24, 0), (25, 1), (26, 2), (27, 3), (28, 4), (29, 5), (30, 6), (31, 7), (32, 8), (33, 9), (34, 10), (35, 11), (36, 12), (37, 13), (38, 14), (39, 15), (40, 16), (41, 17), (42, 18), (43, 19), (44, 20), (45, 21), (46, 22), (47, 23), (48, 24), (49, 25), (50, 26), (51, 27), (52, 28), (55, 31), (56, 32), (57, 33), (58, 34), (59, 35), (60, 36), (61, 37), (62, 38), (63, 39)], [(24, 0), (25, 1), (26, 2), (27, 3), (28, 4), (29, 5), (30, 6), (31, 7), (32, 8), (33, 9), (34, 10), (35, 11), (36, 12), (37, 13), (38, 14), (39, 15), (40, 16), (41, 17), (42, 18), (43, 19), (44, 20), (45, 21), (46, 22), (47, 23), (48, 24), (49, 25), (50, 26), (51, 27), (52, 28), (53, 29), (55, 31), (57, 33), (58, 34), (59, 35), (60, 36), (61, 37), (62, 38), (63, 39)], [(24, 0), (25, 1), (26, 2), (27, 3), (28, 4), (29, 5), (30, 6), (31, 7), (32, 8), (33, 9), (34, 10), (35, 11), (36, 12), (37, 13), (38, 14), (39, 15), (40, 16), (41, 17), (42, 18), (43, 19), (44, 20), (45, 21), (46, 22), (47, 23), (48, 24), (49, 25), (50, 26), (51, 27), (52, 28), (53, 29), (54, 30), (57, 33), (58, 34), (59, 35), (60, 36), (61, 37), (62, 38), (63, 39)], [(24, 0), (25, 1), (26, 2), (27, 3), (28, 4), (29, 5), (30, 6), (31, 7), (32, 8), (33, 9), (34, 10), (35, 11), (36, 12), (37, 13), (38, 14), (39, 15), (40, 16), (41, 17), (42, 18), (43, 19), (44, 20), (45, 21), (46, 22), (47, 23), (48, 24), (49, 25), (50, 26), (51, 27), (52, 28), (53, 29), (54, 30), (55, 31), (57, 33), (58, 34), (59, 35), (60, 36), (62, 38), (63, 39)], [(24, 0), (25, 1), (26, 2), (27, 3), (28, 4), (29, 5), (30, 6), (31, 7), (32, 8), (33, 9), (34, 10), (35, 11), (36, 12), (37, 13), (38, 14), (39, 15), (40, 16), (41, 17), (42, 18), (43, 19), (44, 20), (45, 21), (46, 22), (47, 23), (48, 24), (49, 25), (50, 26), (51, 27), (52, 28), (53, 29), (54, 30), (55, 31), (56, 32), (58, 34), (59, 35), (60, 36), (62, 38), (63, 39)], [(24, 0), (25, 1), (26, 2), (27, 3), (28, 4), (29, 5), (30, 6), (31, 7), (32, 8), (33, 9), (34, 10), (35, 11), (36, 12), (37, 13), (38, 14), (39, 15), (40, 16), (41, 17), (42, 18), (43, 19), (44, 20), (45, 21), (46, 22), (47, 23), (48, 24), (49, 25), (50, 26), (51, 27), (52, 28), (53, 29), (54, 30), (55, 31), (56, 32), (57, 33), (60, 36), (61, 37), (62, 38), (63, 39)], [(24, 0), (25, 1), (26, 2), (27, 3), (28, 4), (29, 5), (30, 6), (31, 7), (32, 8), (33, 9), (34, 10), (35, 11), (36, 12), (37, 13), (38, 14), (39, 15), (40, 16), (41, 17), (42, 18), (43, 19), (44, 20), (45, 21), (46, 22), (47, 23), (48, 24), (49, 25), (50, 26), (51, 27), (52, 28), (53, 29), (54, 30), (55, 31), (56, 32), (57, 33), (58, 34), (61, 37), (62, 38), (63, 39)], [(24, 0), (25, 1), (26, 2), (27, 3), (28, 4), (29, 5), (30, 6), (31, 7), (32, 8), (33, 9), (34, 10), (35, 11), (36, 12), (37, 13), (38, 14), (39, 15), (40, 16), (41, 17), (42, 18), (43, 19), (44, 20), (45, 21), (46, 22), (47, 23), (48, 24), (49, 25), (50, 26), (51, 27), (52, 28), (53, 29), (54, 30), (55, 31), (56, 32), (57, 33), (58, 34), (59, 35), (62, 38), (63, 39)], [(24, 0), (25, 1), (26, 2), (27, 3), (28, 4), (29, 5), (30, 6), (31, 7), (32, 8), (33, 9), (34, 10), (35, 11), (36, 12), (37, 13), (38, 14), (39, 15), (40, 16), (41, 17), (42, 18), (43, 19), (44, 20), (45, 21), (46, 22), (47, 23), (48, 24), (49, 25), (50, 26), (51, 27), (52, 28), (53, 29), (54, 30), (55, 31), (56, 32), (57, 33), (58, 34), (59, 35), (60, 36), (63, 39)], [(24, 0), (25, 1), (26, 2), (27, 3), (28, 4), (29, 5), (30, 6), (31, 7), (32, 8), (33, 9), (34, 10), (35, 11), (36, 12), (37, 13), (38, 14), (39, 15), (40, 16), (41, 17), (42, 18), (43, 19), (44, 20), (45, 21), (46, 22), (47, 23), (48, 24), (49, 25), (50, 26), (51, 27), (52, 28), (53, 29), (54, 30), (55, 31), (56, 32), (57, 33), (58, 34), (59, 35), (60, 36), (61, 37)], [(24, 0), (25, 1), (26, 2), (27, 3), (28, 4), (29, 5), (30, 6), (31, 7), (32, 8), (33, 9), (34, 10), (35, 11), (36, 12), (37, 13), (38, 14), (39, 15), (40, 16), (41, 17), (42, 18), (43, 19), (44, 20), (45, 21), (46, 22), (47, 23), (48, 24), (49, 25), (50, 26), (51, 27), (52, 28), (53, 29), (54, 30), (55, 31), (56, 32), (57, 33), (58, 34), (59, 35), (60, 36), (61, 37), (62, 38)]] [(24, 0), (25, 1), (26, 2), (27, 3), (28, 4), (29, 5), (30, 6), (31, 7), (32, 8), (33, 9), (34, 10), (35, 11), (36, 12), (37, 13), (38, 14), (39, 15), (40, 16), (41, 17), (42, 18), (43, 19), (44, 20), (45, 21), (46, 22), (47, 23), (48, 24), (49, 25), (50, 26), (51, 27), (52, 28), (53, 29), (54, 30), (55, 31), (56, 32), (57, 33), (58, 34), (59, 35), (60, 36), (61, 37), (62, 38), (63, 39)]
                [Is (.int .u64 m), Is (vV (5, 1, m)), Is (.slice (some ⟨w.heap.size, 0, none⟩) 23 23), Is (.int .i64 k), Is (.pointer (some ⟨w.heap.size, k, none⟩)), Is (.int .i64 e), Is (.int .i64 j), Is (.bool true), Is (.bool false), Is (.bool false), Is (.slice (some ⟨w.heap.size, 0, none⟩) 23 23), Is (.int .i64 k), Is (.pointer (some ⟨w.heap.size, k, none⟩)), Is (.int .i64 e), Is (.int .i64 j), Is (.agg #[.int .i64 e, .int .i64 j]), Is (.int .u64 m), Is (vV (5, 1, m)), Is (vV (5, 1, 0)), Is (vV (1, 2, 0)), Is (.int .u64 m), Is (vV (5, 1, m)), fun v w => ValsAt w v [(5, 1, 0), (1, 2, 0), (5, 1, m)] ∧ SliceOK v, Is (.bool true), Is (.bool false), Is (.bool false), Is (.bool false), Is (.slice (some ⟨w.heap.size, 0, none⟩) 23 23), Is (.int .i64 k), Is (.pointer (some ⟨w.heap.size, k, none⟩)), Is (.int .i64 e), Is (.int .i64 j), Is (.agg #[.int .i64 e, .int .i64 j]), Is (vV (1, 1, 0)), Is (.int .u64 m), Is (vV (5, 1, m)), fun v w => ValsAt w v [(5, 1, m)] ∧ SliceOK v, Is (.bool true), Is (.bool false), Is (.bool false)]
                (by kernel_rfl) Grew.trans Grew.refl (Grew.refl _).drew (by kernel_rfl) ⟨is_st, is_st, is_st, is_st, is_st, is_st, is_st, is_st, is_st, is_st, is_st, is_st, is_st, is_st, is_st, is_st, is_st, is_st, is_st, is_st, is_st, is_st, valsOK_st _, is_st, is_st, is_st, is_st, is_st, is_st, is_st, is_st, is_st, is_st, is_st, is_st, is_st, valsOK_st _, is_st, is_st, is_st, trivial⟩ ⟨?_, ?_, ?_, ?_, ?_, ?_, ?_, ?_, ?_, ?_, ?_, ?_, ?_, ?_, ?_, ?_, ?_, ?_, ?_, ?_, ?_, ?_, ?_, ?_, ?_, ?_, ?_, ?_, ?_, ?_, ?_, ?_, ?_, ?_, ?_, ?_, ?_, ?_, ?_, ?_, trivial⟩ rfl ?_
              · intro y w2 hG hD K hK
                simp only [fillL, Act.put, List.setIfInBounds_toArray, List.set_cons_zero, List.set_cons_succ, List.getD_cons_zero, List.getD_cons_succ, Is] at hK ⊢
                refine ite_yes (by rfl) ?_
                go_simp
                exact hK _ _ _ rfl (Grew.refl _) rfl
              · intro y w2 hG hD K hK
                simp only [depsH, List.getD_cons_zero, List.getD_cons_succ, Is, and_true] at hD
                have h0 := hD
                clear hD
                simp only [fillL, Act.put, List.setIfInBounds_toArray, List.set_cons_zero, List.set_cons_succ, List.getD_cons_zero, List.getD_cons_succ, Is] at hK ⊢
                rw [h0] at hK ⊢
                refine ite_yes (by rfl) ?_
                go_simp
                refine (text_any _ _).mono ?_
                rintro y3 w3 ⟨rfl, hg⟩
                exact hK _ _ _ rfl hg rfl
              · intro y w2 hG hD K hK
                simp only [fillL, Act.put, List.setIfInBounds_toArray, List.set_cons_zero, List.set_cons_succ, List.getD_cons_zero, List.getD_cons_succ, Is] at hK ⊢
                refine ite_yes (by rfl) ?_
                go_simp
                exact hK _ _ _ rfl (Grew.refl _) rfl
              · intro y w2 hG hD K hK
                simp only [fillL, Act.put, List.setIfInBounds_toArray, List.set_cons_zero, List.set_cons_succ, List.getD_cons_zero, List.getD_cons_succ, Is] at hK ⊢
                refine ite_yes (by rfl) ?_
                go_simp
                exact hK _ _ _ rfl (Grew.refl _) rfl
              · intro y w2 hG hD K hK
                simp only [depsH, List.getD_cons_zero, List.getD_cons_succ, Is, and_true] at hD
                have h2 := hD.1
                have h3 := hD.2
                clear hD
                simp only [fillL, Act.put, List.setIfInBounds_toArray, List.set_cons_zero, List.set_cons_succ, List.getD_cons_zero, List.getD_cons_succ, Is] at hK ⊢
                rw [h2, h3] at hK ⊢
                refine ite_yes (by rfl) ?_
                go_simp
                exact hK _ _ _ rfl (Grew.refl _) rfl
              · intro y w2 hG hD K hK
                simp only [depsH, List.getD_cons_zero, List.getD_cons_succ, Is, and_true] at hD
                have h4 := hD
                clear hD
                have dce := hG.cell ce
                simp only [fillL, Act.put, List.setIfInBounds_toArray, List.set_cons_zero, List.set_cons_succ, List.getD_cons_zero, List.getD_cons_succ, Is] at hK ⊢
                rw [h4] at hK ⊢
                refine ite_yes (by rfl) ?_
                go_simp
                exact hK _ _ _ rfl (Grew.refl _) rfl
              · intro y w2 hG hD K hK
                simp only [fillL, Act.put, List.setIfInBounds_toArray, List.set_cons_zero, List.set_cons_succ, List.getD_cons_zero, List.getD_cons_succ, Is] at hK ⊢
                refine ite_yes (by rfl) ?_
                go_simp
                exact hK _ _ _ rfl (Grew.refl _) rfl
              · intro y w2 hG hD K hK
                simp only [depsH, List.getD_cons_zero, List.getD_cons_succ, Is, and_true] at hD
                have h1 := hD.1
                have h5 := hD.2.1
                have h6 := hD.2.2
                clear hD
                simp only [fillL, Act.put, List.setIfInBounds_toArray, List.set_cons_zero, List.set_cons_succ, List.getD_cons_zero, List.getD_cons_succ, Is] at hK ⊢
                rw [h1, h5, h6] at hK ⊢
                refine ite_yes (by rfl) ?_
                go_simp
                refine (fitOnes_any _ _ _ _ _ _ m0 m1).mono ?_
                rintro y3 w3 ⟨rfl, hg⟩
                exact hK _ _ _ rfl hg rfl
              · intro y w2 hG hD K hK
                simp only [depsH, List.getD_cons_zero, List.getD_cons_succ, Is, and_true] at hD
                have h7 := hD
                clear hD
                simp only [fillL, Act.put, List.setIfInBounds_toArray, List.set_cons_zero, List.set_cons_succ, List.getD_cons_zero, List.getD_cons_succ, Is] at hK ⊢
                rw [h7] at hK ⊢
                refine ite_yes (by rfl) ?_
                go_simp
                exact hK _ _ _ rfl (Grew.refl _) rfl
              · intro y w2 hG hD K hK
                simp only [depsH, List.getD_cons_zero, List.getD_cons_succ, Is, and_true] at hD
                have h8 := hD
                clear hD
                simp only [fillL, Act.put, List.setIfInBounds_toArray, List.set_cons_zero, List.set_cons_succ, List.getD_cons_zero, List.getD_cons_succ, Is] at hK ⊢
                rw [h8] at hK ⊢
                refine ite_yes (by rfl) ?_
                go_simp
                exact hK _ _ _ rfl (Grew.refl _) rfl
              · intro y w2 hG hD K hK
                simp only [depsH, List.getD_cons_zero, List.getD_cons_succ, Is, and_true] at hD
                have h9 := hD
                clear hD
                simp only [fillL, Act.put, List.setIfInBounds_toArray, List.set_cons_zero, List.set_cons_succ, List.getD_cons_zero, List.getD_cons_succ, Is] at hK ⊢
                rw [h9] at hK ⊢
                refine ite_yes (by rfl) ?_
                go_simp
                exact hK _ _ _ rfl (Grew.refl _) rfl
              · intro y w2 hG hD K hK
                simp only [depsH, List.getD_cons_zero, List.getD_cons_succ, Is, and_true] at hD
                have h9 := hD
                clear hD
                simp only [fillL, Act.put, List.setIfInBounds_toArray, List.set_cons_zero, List.set_cons_succ, List.getD_cons_zero, List.getD_cons_succ, Is] at hK ⊢
                rw [h9] at hK ⊢
                refine ite_yes (by rfl) ?_
                go_simp
                exact hK _ _ _ rfl (Grew.refl _) rfl
              · intro y w2 hG hD K hK
                simp only [depsH, List.getD_cons_zero, List.getD_cons_succ, Is, and_true] at hD
                have h9 := hD.1
                have h10 := hD.2.1
                have h11 := hD.2.2
                clear hD
                simp only [fillL, Act.put, List.setIfInBounds_toArray, List.set_cons_zero, List.set_cons_succ, List.getD_cons_zero, List.getD_cons_succ, Is] at hK ⊢
                rw [h9, h10, h11] at hK ⊢
                refine ite_yes (by rfl) ?_
                go_simp
                exact hK _ _ _ rfl (Grew.refl _) rfl
              · intro y w2 hG hD K hK
                simp only [depsH, List.getD_cons_zero, List.getD_cons_succ, Is, and_true] at hD
                have h9 := hD.1
                have h12 := hD.2
                clear hD
                have dce := hG.cell ce
                simp only [fillL, Act.put, List.setIfInBounds_toArray, List.set_cons_zero, List.set_cons_succ, List.getD_cons_zero, List.getD_cons_succ, Is] at hK ⊢
                rw [h9, h12] at hK ⊢
                refine ite_yes (by rfl) ?_
                go_simp
                exact hK _ _ _ rfl (Grew.refl _) rfl
              · intro y w2 hG hD K hK
                simp only [depsH, List.getD_cons_zero, List.getD_cons_succ, Is, and_true] at hD
                have h9 := hD
                clear hD
                simp only [fillL, Act.put, List.setIfInBounds_toArray, List.set_cons_zero, List.set_cons_succ, List.getD_cons_zero, List.getD_cons_succ, Is] at hK ⊢
                rw [h9] at hK ⊢
                refine ite_yes (by rfl) ?_
                go_simp
                exact hK _ _ _ rfl (Grew.refl _) rfl
              · intro y w2 hG hD K hK
                simp only [depsH, List.getD_cons_zero, List.getD_cons_succ, Is, and_true] at hD
                have h9 := hD.1
                have h13 := hD.2.1
                have h14 := hD.2.2
                clear hD
                simp only [fillL, Act.put, List.setIfInBounds_toArray, List.set_cons_zero, List.set_cons_succ, List.getD_cons_zero, List.getD_cons_succ, Is] at hK ⊢
                rw [h9, h13, h14] at hK ⊢
                refine ite_yes (by rfl) ?_
                go_simp
                exact hK _ _ _ rfl (Grew.refl _) rfl
              · intro y w2 hG hD K hK
                simp only [depsH, List.getD_cons_zero, List.getD_cons_succ, Is, and_true] at hD
                have h9 := hD
                clear hD
                simp only [fillL, Act.put, List.setIfInBounds_toArray, List.set_cons_zero, List.set_cons_succ, List.getD_cons_zero, List.getD_cons_succ, Is] at hK ⊢
                rw [h9] at hK ⊢
                refine ite_yes (by rfl) ?_
                go_simp
                exact hK _ _ _ rfl (Grew.refl _) rfl
              · intro y w2 hG hD K hK
                simp only [depsH, List.getD_cons_zero, List.getD_cons_succ, Is, and_true] at hD
                have h9 := hD.1
                have h16 := hD.2
                clear hD
                simp only [fillL, Act.put, List.setIfInBounds_toArray, List.set_cons_zero, List.set_cons_succ, List.getD_cons_zero, List.getD_cons_succ, Is] at hK ⊢
                rw [h9, h16] at hK ⊢
                refine ite_yes (by rfl) ?_
                go_simp
                refine (text_any _ _).mono ?_
                rintro y3 w3 ⟨rfl, hg⟩
                exact hK _ _ _ rfl hg rfl
              · intro y w2 hG hD K hK
                simp only [depsH, List.getD_cons_zero, List.getD_cons_succ, Is, and_true] at hD
                have h9 := hD
                clear hD
                simp only [fillL, Act.put, List.setIfInBounds_toArray, List.set_cons_zero, List.set_cons_succ, List.getD_cons_zero, List.getD_cons_succ, Is] at hK ⊢
                rw [h9] at hK ⊢
                refine ite_yes (by rfl) ?_
                go_simp
                refine (text_any _ _).mono ?_
                rintro y3 w3 ⟨rfl, hg⟩
                exact hK _ _ _ rfl hg rfl
              · intro y w2 hG hD K hK
                simp only [depsH, List.getD_cons_zero, List.getD_cons_succ, Is, and_true] at hD
                have h9 := hD
                clear hD
                simp only [fillL, Act.put, List.setIfInBounds_toArray, List.set_cons_zero, List.set_cons_succ, List.getD_cons_zero, List.getD_cons_succ, Is] at hK ⊢
                rw [h9] at hK ⊢
                refine ite_yes (by rfl) ?_
                go_simp
                refine (num_any _ _).mono ?_
                rintro y3 w3 ⟨rfl, hg⟩
                exact hK _ _ _ rfl hg rfl
              · intro y w2 hG hD K hK
                simp only [depsH, List.getD_cons_zero, List.getD_cons_succ, Is, and_true] at hD
                have h9 := hD
                clear hD
                simp only [fillL, Act.put, List.setIfInBounds_toArray, List.set_cons_zero, List.set_cons_succ, List.getD_cons_zero, List.getD_cons_succ, Is] at hK ⊢
                rw [h9] at hK ⊢
                refine ite_yes (by rfl) ?_
                go_simp
                exact hK _ _ _ rfl (Grew.refl _) rfl
              · intro y w2 hG hD K hK
                simp only [depsH, List.getD_cons_zero, List.getD_cons_succ, Is, and_true] at hD
                have h9 := hD.1
                have h20 := hD.2
                clear hD
                simp only [fillL, Act.put, List.setIfInBounds_toArray, List.set_cons_zero, List.set_cons_succ, List.getD_cons_zero, List.getD_cons_succ, Is] at hK ⊢
                rw [h9, h20] at hK ⊢
                refine ite_yes (by rfl) ?_
                go_simp
                refine (text_any _ _).mono ?_
                rintro y3 w3 ⟨rfl, hg⟩
                exact hK _ _ _ rfl hg rfl
              · intro y w2 hG hD K hK
                simp only [depsH, List.getD_cons_zero, List.getD_cons_succ, Is, and_true] at hD
                have h9 := hD.1
                have h18 := hD.2.1
                have h19 := hD.2.2.1
                have h21 := hD.2.2.2
                clear hD
                simp only [fillL, Act.put, List.setIfInBounds_toArray, List.set_cons_zero, List.set_cons_succ, List.getD_cons_zero, List.getD_cons_succ, Is] at hK ⊢
                rw [h9, h18, h19, h21] at hK ⊢
                refine ite_yes (by rfl) ?_
                go_simp
                exact hK _ _ _ rfl ((Grew.refl _).alloc _) ⟨built_vals w2 [(5, 1, 0), (1, 2, 0), (5, 1, m)] _, full_ok _ _⟩
              · intro y w2 hG hD K hK
                simp only [depsH, List.getD_cons_zero, List.getD_cons_succ, Is, and_true] at hD
                have h9 := hD.1
                have h15 := hD.2.1
                have h17 := hD.2.2.1
                have h22 := hD.2.2.2
                clear hD
                simp only [fillL, Act.put, List.setIfInBounds_toArray, List.set_cons_zero, List.set_cons_succ, List.getD_cons_zero, List.getD_cons_succ, Is] at hK ⊢
                rw [h9, h15, h17] at hK ⊢
                refine ite_yes (by rfl) ?_
                go_simp
                refine (fitAlls_any e j 5 1 m [(5, 1, 0), (1, 2, 0), (5, 1, m)] _ _ ⟨m0, m1⟩ h22.1 h22.2 (by simp) (ok_three m m0 m1)).mono ?_
                rintro y3 w3 ⟨rfl, hg⟩
                exact hK _ _ _ rfl hg rfl
              · intro y w2 hG hD K hK
                simp only [depsH, List.getD_cons_zero, List.getD_cons_succ, Is, and_true] at hD
                have h9 := hD.1
                have h23 := hD.2
                clear hD
                simp only [fillL, Act.put, List.setIfInBounds_toArray, List.set_cons_zero, List.set_cons_succ, List.getD_cons_zero, List.getD_cons_succ, Is] at hK ⊢
                rw [h9, h23] at hK ⊢
                refine ite_yes (by rfl) ?_
                go_simp
                exact hK _ _ _ rfl (Grew.refl _) rfl
              · intro y w2 hG hD K hK
                simp only [depsH, List.getD_cons_zero, List.getD_cons_succ, Is, and_true] at hD
                have h9 := hD.1
                have h24 := hD.2
                clear hD
                simp only [fillL, Act.put, List.setIfInBounds_toArray, List.set_cons_zero, List.set_cons_succ, List.getD_cons_zero, List.getD_cons_succ, Is] at hK ⊢
                rw [h9, h24] at hK ⊢
                refine ite_yes (by rfl) ?_
                go_simp
                exact hK _ _ _ rfl (Grew.refl _) rfl
              · intro y w2 hG hD K hK
                simp only [depsH, List.getD_cons_zero, List.getD_cons_succ, Is, and_true] at hD
                have h25 := hD
                clear hD
                simp only [fillL, Act.put, List.setIfInBounds_toArray, List.set_cons_zero, List.set_cons_succ, List.getD_cons_zero, List.getD_cons_succ, Is] at hK ⊢
                rw [h25] at hK ⊢
                refine ite_yes (by rfl) ?_
                go_simp
                exact hK _ _ _ rfl (Grew.refl _) rfl
              · intro y w2 hG hD K hK
                simp only [depsH, List.getD_cons_zero, List.getD_cons_succ, Is, and_true] at hD
                have h26 := hD
                clear hD
                simp only [fillL, Act.put, List.setIfInBounds_toArray, List.set_cons_zero, List.set_cons_succ, List.getD_cons_zero, List.getD_cons_succ, Is] at hK ⊢
                rw [h26] at hK ⊢
                refine ite_yes (by rfl) ?_
                go_simp
                exact hK _ _ _ rfl (Grew.refl _) rfl
              · intro y w2 hG hD K hK
                simp only [depsH, List.getD_cons_zero, List.getD_cons_succ, Is, and_true] at hD
                have h26 := hD
                clear hD
                simp only [fillL, Act.put, List.setIfInBounds_toArray, List.set_cons_zero, List.set_cons_succ, List.getD_cons_zero, List.getD_cons_succ, Is] at hK ⊢
                rw [h26] at hK ⊢
                refine ite_yes (by rfl) ?_
                go_simp
                exact hK _ _ _ rfl (Grew.refl _) rfl
              · intro y w2 hG hD K hK
                simp only [depsH, List.getD_cons_zero, List.getD_cons_succ, Is, and_true] at hD
                have h26 := hD.1
                have h27 := hD.2.1
                have h28 := hD.2.2
                clear hD
                simp only [fillL, Act.put, List.setIfInBounds_toArray, List.set_cons_zero, List.set_cons_succ, List.getD_cons_zero, List.getD_cons_succ, Is] at hK ⊢
                rw [h26, h27, h28] at hK ⊢
                refine ite_yes (by rfl) ?_
                go_simp
                exact hK _ _ _ rfl (Grew.refl _) rfl
              · intro y w2 hG hD K hK
                simp only [depsH, List.getD_cons_zero, List.getD_cons_succ, Is, and_true] at hD
                have h26 := hD.1
                have h29 := hD.2
                clear hD
                have dce := hG.cell ce
                simp only [fillL, Act.put, List.setIfInBounds_toArray, List.set_cons_zero, List.set_cons_succ, List.getD_cons_zero, List.getD_cons_succ, Is] at hK ⊢
                rw [h26, h29] at hK ⊢
                refine ite_yes (by rfl) ?_
                go_simp
                exact hK _ _ _ rfl (Grew.refl _) rfl
              · intro y w2 hG hD K hK
                simp only [depsH, List.getD_cons_zero, List.getD_cons_succ, Is, and_true] at hD
                have h26 := hD
                clear hD
                simp only [fillL, Act.put, List.setIfInBounds_toArray, List.set_cons_zero, List.set_cons_succ, List.getD_cons_zero, List.getD_cons_succ, Is] at hK ⊢
                rw [h26] at hK ⊢
                refine ite_yes (by rfl) ?_
                go_simp
                exact hK _ _ _ rfl (Grew.refl _) rfl
              · intro y w2 hG hD K hK
                simp only [depsH, List.getD_cons_zero, List.getD_cons_succ, Is, and_true] at hD
                have h26 := hD.1
                have h30 := hD.2.1
                have h31 := hD.2.2
                clear hD
                simp only [fillL, Act.put, List.setIfInBounds_toArray, List.set_cons_zero, List.set_cons_succ, List.getD_cons_zero, List.getD_cons_succ, Is] at hK ⊢
                rw [h26, h30, h31] at hK ⊢
                refine ite_yes (by rfl) ?_
                go_simp
                exact hK _ _ _ rfl (Grew.refl _) rfl
              · intro y w2 hG hD K hK
                simp only [depsH, List.getD_cons_zero, List.getD_cons_succ, Is, and_true] at hD
                have h26 := hD
                clear hD
                simp only [fillL, Act.put, List.setIfInBounds_toArray, List.set_cons_zero, List.set_cons_succ, List.getD_cons_zero, List.getD_cons_succ, Is] at hK ⊢
                rw [h26] at hK ⊢
                refine ite_yes (by rfl) ?_
                go_simp
                refine (num_any _ _).mono ?_
                rintro y3 w3 ⟨rfl, hg⟩
                exact hK _ _ _ rfl hg rfl
              · intro y w2 hG hD K hK
                simp only [depsH, List.getD_cons_zero, List.getD_cons_succ, Is, and_true] at hD
                have h26 := hD
                clear hD
                simp only [fillL, Act.put, List.setIfInBounds_toArray, List.set_cons_zero, List.set_cons_succ, List.getD_cons_zero, List.getD_cons_succ, Is] at hK ⊢
                rw [h26] at hK ⊢
                refine ite_yes (by rfl) ?_
                go_simp
                exact hK _ _ _ rfl (Grew.refl _) rfl
              · intro y w2 hG hD K hK
                simp only [depsH, List.getD_cons_zero, List.getD_cons_succ, Is, and_true] at hD
                have h26 := hD.1
                have h34 := hD.2
                clear hD
                simp only [fillL, Act.put, List.setIfInBounds_toArray, List.set_cons_zero, List.set_cons_succ, List.getD_cons_zero, List.getD_cons_succ, Is] at hK ⊢
                rw [h26, h34] at hK ⊢
                refine ite_yes (by rfl) ?_
                go_simp
                refine (text_any _ _).mono ?_
                rintro y3 w3 ⟨rfl, hg⟩
                exact hK _ _ _ rfl hg rfl
              · intro y w2 hG hD K hK
                simp only [depsH, List.getD_cons_zero, List.getD_cons_succ, Is, and_true] at hD
                have h26 := hD.1
                have h35 := hD.2
                clear hD
                simp only [fillL, Act.put, List.setIfInBounds_toArray, List.set_cons_zero, List.set_cons_succ, List.getD_cons_zero, List.getD_cons_succ, Is] at hK ⊢
                rw [h26, h35] at hK ⊢
                refine ite_yes (by rfl) ?_
                go_simp
                exact hK _ _ _ rfl ((Grew.refl _).alloc _) ⟨built_vals w2 [(5, 1, m)] _, full_ok _ _⟩
              · intro y w2 hG hD K hK
                simp only [depsH, List.getD_cons_zero, List.getD_cons_succ, Is, and_true] at hD
                have h26 := hD.1
                have h32 := hD.2.1
                have h33 := hD.2.2.1
                have h36 := hD.2.2.2
                clear hD
                simp only [fillL, Act.put, List.setIfInBounds_toArray, List.set_cons_zero, List.set_cons_succ, List.getD_cons_zero, List.getD_cons_succ, Is] at hK ⊢
                rw [h26, h32, h33] at hK ⊢
                refine ite_yes (by rfl) ?_
                go_simp
                refine (fitAlls_any e j 1 1 0 [(5, 1, m)] _ _ ⟨by decide, by decide⟩ h36.1 h36.2 (by simp) (ok_single m m0 m1)).mono ?_
                rintro y3 w3 ⟨rfl, hg⟩
                exact hK _ _ _ rfl hg rfl
              · intro y w2 hG hD K hK
                simp only [depsH, List.getD_cons_zero, List.getD_cons_succ, Is, and_true] at hD
                have h26 := hD.1
                have h37 := hD.2
                clear hD
                simp only [fillL, Act.put, List.setIfInBounds_toArray, List.set_cons_zero, List.set_cons_succ, List.getD_cons_zero, List.getD_cons_succ, Is] at hK ⊢
                rw [h26, h37] at hK ⊢
                refine ite_yes (by rfl) ?_
                go_simp
                exact hK _ _ _ rfl (Grew.refl _) rfl
              · intro y w2 hG hD K hK
                simp only [depsH, List.getD_cons_zero, List.getD_cons_succ, Is, and_true] at hD
                have h26 := hD.1
                have h38 := hD.2
                clear hD
                simp only [fillL, Act.put, List.setIfInBounds_toArray, List.set_cons_zero, List.set_cons_succ, List.getD_cons_zero, List.getD_cons_succ, Is] at hK ⊢
                rw [h26, h38] at hK ⊢
                refine ite_yes (by rfl) ?_
                go_simp
                exact hK _ _ _ rfl (Grew.refl _) rfl
              · intro y w2 hG hF
                simp only [factsH, Is, and_true, Nat.reduceAdd] at hF
                have h0 := hF.1
                have h1 := hF.2.1
                have h2 := hF.2.2.1
                have h3 := hF.2.2.2.1
                have h4 := hF.2.2.2.2.1
                have h5 := hF.2.2.2.2.2.1
                have h6 := hF.2.2.2.2.2.2.1
                have h7 := hF.2.2.2.2.2.2.2.1
                have h8 := hF.2.2.2.2.2.2.2.2.1
                have h9 := hF.2.2.2.2.2.2.2.2.2.1
                have h10 := hF.2.2.2.2.2.2.2.2.2.2.1
                have h11 := hF.2.2.2.2.2.2.2.2.2.2.2.1
                have h12 := hF.2.2.2.2.2.2.2.2.2.2.2.2.1
                have h13 := hF.2.2.2.2.2.2.2.2.2.2.2.2.2.1
                have h14 := hF.2.2.2.2.2.2.2.2.2.2.2.2.2.2.1
                have h15 := hF.2.2.2.2.2.2.2.2.2.2.2.2.2.2.2.1
                have h16 := hF.2.2.2.2.2.2.2.2.2.2.2.2.2.2.2.2.1
                have h17 := hF.2.2.2.2.2.2.2.2.2.2.2.2.2.2.2.2.2.1
                have h18 := hF.2.2.2.2.2.2.2.2.2.2.2.2.2.2.2.2.2.2.1
                have h19 := hF.2.2.2.2.2.2.2.2.2.2.2.2.2.2.2.2.2.2.2.1
                have h20 := hF.2.2.2.2.2.2.2.2.2.2.2.2.2.2.2.2.2.2.2.2.1
                have h21 := hF.2.2.2.2.2.2.2.2.2.2.2.2.2.2.2.2.2.2.2.2.2.1
                have h22 := hF.2.2.2.2.2.2.2.2.2.2.2.2.2.2.2.2.2.2.2.2.2.2.1
                have h23 := hF.2.2.2.2.2.2.2.2.2.2.2.2.2.2.2.2.2.2.2.2.2.2.2.1
                have h24 := hF.2.2.2.2.2.2.2.2.2.2.2.2.2.2.2.2.2.2.2.2.2.2.2.2.1
                have h25 := hF.2.2.2.2.2.2.2.2.2.2.2.2.2.2.2.2.2.2.2.2.2.2.2.2.2.1
                have h26 := hF.2.2.2.2.2.2.2.2.2.2.2.2.2.2.2.2.2.2.2.2.2.2.2.2.2.2.1
                have h27 := hF.2.2.2.2.2.2.2.2.2.2.2.2.2.2.2.2.2.2.2.2.2.2.2.2.2.2.2.1
                have h28 := hF.2.2.2.2.2.2.2.2.2.2.2.2.2.2.2.2.2.2.2.2.2.2.2.2.2.2.2.2.1
                have h29 := hF.2.2.2.2.2.2.2.2.2.2.2.2.2.2.2.2.2.2.2.2.2.2.2.2.2.2.2.2.2.1
                have h30 := hF.2.2.2.2.2.2.2.2.2.2.2.2.2.2.2.2.2.2.2.2.2.2.2.2.2.2.2.2.2.2.1
                have h31 := hF.2.2.2.2.2.2.2.2.2.2.2.2.2.2.2.2.2.2.2.2.2.2.2.2.2.2.2.2.2.2.2.1
                have h32 := hF.2.2.2.2.2.2.2.2.2.2.2.2.2.2.2.2.2.2.2.2.2.2.2.2.2.2.2.2.2.2.2.2.1
                have h33 := hF.2.2.2.2.2.2.2.2.2.2.2.2.2.2.2.2.2.2.2.2.2.2.2.2.2.2.2.2.2.2.2.2.2.1
                have h34 := hF.2.2.2.2.2.2.2.2.2.2.2.2.2.2.2.2.2.2.2.2.2.2.2.2.2.2.2.2.2.2.2.2.2.2.1
                have h35 := hF.2.2.2.2.2.2.2.2.2.2.2.2.2.2.2.2.2.2.2.2.2.2.2.2.2.2.2.2.2.2.2.2.2.2.2.1
                have h36 := hF.2.2.2.2.2.2.2.2.2.2.2.2.2.2.2.2.2.2.2.2.2.2.2.2.2.2.2.2.2.2.2.2.2.2.2.2.1
                have h37 := hF.2.2.2.2.2.2.2.2.2.2.2.2.2.2.2.2.2.2.2.2.2.2.2.2.2.2.2.2.2.2.2.2.2.2.2.2.2.1
                have h38 := hF.2.2.2.2.2.2.2.2.2.2.2.2.2.2.2.2.2.2.2.2.2.2.2.2.2.2.2.2.2.2.2.2.2.2.2.2.2.2.1
                have h39 := hF.2.2.2.2.2.2.2.2.2.2.2.2.2.2.2.2.2.2.2.2.2.2.2.2.2.2.2.2.2.2.2.2.2.2.2.2.2.2.2
                clear hF
                simp only [fillL, Act.put, List.setIfInBounds_toArray, List.set_cons_zero, List.set_cons_succ, List.getD_cons_zero, List.getD_cons_succ, Is]
                rw [h0, h1, h2, h3, h4, h5, h6, h7, h8, h9, h10, h11, h12, h13, h14, h15, h16, h17, h18, h19, h20, h21, h23, h24, h25, h26, h27, h28, h29, h30, h31, h32, h33, h34, h35, h37, h38, h39]
                clear h0 h1 h2 h3 h4 h5 h6 h7 h8 h9 h10 h11 h12 h13 h14 h15 h16 h17 h18 h19 h20 h21 h23 h24 h25 h26 h27 h28 h29 h30 h31 h32 h33 h34 h35 h37 h38 h39
                go_wp2
                go_roundw
                case rel => first | exact ⟨hg3.trans hG, m + 1, by omega, by go_num⟩ | ((repeat apply Exists.intro); exact ⟨⟨hg3.trans hG, m + 1, by omega, by go_num⟩, rfl⟩)
                case measure => simp [intOf]; omega
            · go_wp2_with fail
              go_roundw
              case rel => exact ⟨hg2.trans hg3, j + 1, by omega, by go_num⟩
              case measure => simp [intOf]; omega
        · go_wp2_with fail
          go_roundw
          case rel => exact ⟨hg.trans hg2, k + 1, by omega, by go_num⟩
          case measure => simp [intOf]; omega
    · obtain ⟨wq, rfl⟩ : ∃ wq : World, wq = wr := ⟨_, rfl⟩
      have hgA := hg
      clear hc hg
      go_wp2_with fail
      obtain ⟨w3, hw3⟩ : ∃ w3, w3 = wq.alloc (.cells #[.int .i64 (-9223372036854775808), .int .i64 (-1), .int .i64 0, .int .i64 1073741825, .int .i64 9223372036854775807] 3) := ⟨_, rfl⟩
      have hc : Hid (∀ k, k < 5 → ∃ e, w3.cell? ⟨wq.heap.size, k, none⟩ = some (.int .i64 e)) := by
        intro k hk
        rw [hw3]
        exact ints_cell wq [-9223372036854775808, -1, 0, 1073741825, 9223372036854775807] 3 k hk
      have g3 : Grew w w3 := by rw [hw3]; exact (g1.trans hgA).trans ((Grew.refl _).alloc _)
      rw [← hw3]
      clear hw3 hgA g1 hk1 hlt
      go_loopw [6] (fun i wr => Grew w3 wr ∧ ∃ k : Nat, k ≤ 5 ∧ i = .int .i64 k) (fun i _ => 5 - (intOf i).toNat)
      case atStart => exact ⟨Grew.refl _, 0, by omega, rfl⟩
      case round =>
        obtain ⟨hg4, k, hk1, rfl⟩ := hrel
        by_cases hlt : k < 5
        · obtain ⟨e, he⟩ := hc.out k hlt
          obtain ⟨wo, rfl⟩ : ∃ wo : World, wo = wr := ⟨_, rfl⟩
          go_wp2_with fail
          rw [show decide ((k : Int) < 5) = true from decide_eq_true (by omega)]
          go_loopw [7] (fun i wr => Grew wo wr ∧ ∃ q : Nat, q ≤ 41 ∧ i = .int .i64 ((q : Int) - 1)) (fun i _ => 41 - (intOf i + 1).toNat)
          case atStart => exact ⟨Grew.refl _, 0, by omega, rfl⟩
          case round =>
            obtain ⟨hg5, q, hq1, rfl⟩ := hrel
            have ce0 := (hg4.trans hg5).cell he
            by_cases hltq : q < 41
            · have k0 : (0 : Int) ≤ k := by omega
              have k1 : (k : Int) ≤ 18446744073709551615 := by omega
              go_wp2_with fail
              rw [show decide ((q : Int) - 1 < 40) = true from decide_eq_true (by omega)]
              have ce : (wr.alloc (.cells #[.int .i64 ((q : Int) - 1), .int .i64 e, .int .u64 k] 24)).cell? ⟨wq.heap.size, k, none⟩ = some (.int .i64 e) := ((Grew.refl _).alloc _).cell ce0
              have d0 : (wr.alloc (.cells #[.int .i64 ((q : Int) - 1), .int .i64 e, .int .u64 k] 24)).cell? ⟨wr.heap.size, 0, none⟩ = some (.int .i64 ((q : Int) - 1)) := by go_simp
              have d1 : (wr.alloc (.cells #[.int .i64 ((q : Int) - 1), .int .i64 e, .int .u64 k] 24)).cell? ⟨wr.heap.size, 1, none⟩ = some (.int .i64 e) := by go_simp
              have d2 : (wr.alloc (.cells #[.int .i64 ((q : Int) - 1), .int .i64 e, .int .u64 k] 24)).cell? ⟨wr.heap.size, 2, none⟩ = some (.int .u64 k) := by go_simp
              refine wp_region_tables Grew [[], [], [], [1, 2], [3], [0, 4], [5], [6], [7], [7], [7], [7, 9, 10], [7, 11], [7, 8, 12], [7, 13], [7, 14], [15], [16], [16, 17], [16, 18], [16, 19], [20], [21], [21], [21, 22, 23], [21, 24], [21, 25], [21], [21], [21, 28], [21, 26, 27, 29], [21, 30], [21, 31], [32], [33], [33], [33, 34, 35], [33, 36], [33, 37], [33], [33], [33, 40], [33, 38, 39, 41], [33, 42], [33, 43], [44], [45], [45], [45, 46, 47], [45, 48], [45, 49]] [[(84, 1), (85, 2), (86, 3), (87, 4), (89, 6), (90, 7), (91, 8), (92, 9), (93, 10), (94, 11), (95, 12), (96, 13), (97, 14), (98, 15), (99, 16), (100, 17), (101, 18), (102, 19), (103, 20), (104, 21), (105, 22), (106, 23), (107, 24), (108, 25), (109, 26), (110, 27), (111, 28), (112, 29), (113, 30), (114, 31), (115, 32), (116, 33), (117, 34), (118, 35), (119, 36), (120, 37), (121, 38), (122, 39), (123, 40), (124, 41), (125, 42), (126, 43), (127, 44), (128, 45), (129, 46), (130, 47), (131, 48), (132, 49), (133, 50)], [(83, 0), (85, 2), (87, 4), (88, 5), (89, 6), (90, 7), (91, 8), (92, 9), (93, 10), (94, 11), (95, 12), (96, 13), (97, 14), (98, 15), (99, 16), (100, 17), (101, 18), (102, 19), (103, 20), (104, 21), (105, 22), (106, 23), (107, 24), (108, 25), (109, 26), (110, 27), (111, 28), (112, 29), (113, 30), (114, 31), (115, 32), (116, 33), (117, 34), (118, 35), (119, 36), (120, 37), (121, 38), (122, 39), (123, 40), (124, 41), (125, 42), (126, 43), (127, 44), (128, 45), (129, 46), (130, 47), (131, 48), (132, 49), (133, 50)], [(83, 0), (84, 1), (87, 4), (88, 5), (89, 6), (90, 7), (91, 8), (92, 9), (93, 10), (94, 11), (95, 12), (96, 13), (97, 14), (98, 15), (99, 16), (100, 17), (101, 18), (102, 19), (103, 20), (104, 21), (105, 22), (106, 23), (107, 24), (108, 25), (109, 26), (110, 27), (111, 28), (112, 29), (113, 30), (114, 31), (115, 32), (116, 33), (117, 34), (118, 35), (119, 36), (120, 37), (121, 38), (122, 39), (123, 40), (124, 41), (125, 42), (126, 43), (127, 44), (128, 45), (129, 46), (130, 47), (131, 48), (132, 49), (133, 50)], [(83, 0), (84, 1), (85, 2), (88, 5), (89, 6), (90, 7), (91, 8), (92, 9), (93, 10), (94, 11), (95, 12), (96, 13), (97, 14), (98, 15), (99, 16), (100, 17), (101, 18), (102, 19), (103, 20), (104, 21), (105, 22), (106, 23), (107, 24), (108, 25), (109, 26), (110, 27), (111, 28), (112, 29), (113, 30), (114, 31), (115, 32), (116, 33), (117, 34), (118, 35), (119, 36), (120, 37), (121, 38), (122, 39), (123, 40), (124, 41), (125, 42), (126, 43), (127, 44), (128, 45), (129, 46), (130, 47), (131, 48), (132, 49), (133, 50)], [(83, 0), (84, 1), (85, 2), (86, 3), (89, 6), (90, 7), (91, 8), (92, 9), (93, 10), (94, 11), (95, 12), (96, 13), (97, 14), (98, 15), (99, 16), (100, 17), (101, 18), (102, 19), (103, 20), (104, 21), (105, 22), (106, 23), (107, 24), (108, 25), (109, 26), (110, 27), (111, 28), (112, 29), (113, 30), (114, 31), (115, 32), (116, 33), (117, 34), (118, 35), (119, 36), (120, 37), (121, 38), (122, 39), (123, 40), (124, 41), (125, 42), (126, 43), (127, 44), (128, 45), (129, 46), (130, 47), (131, 48), (132, 49), (133, 50)], [(83, 0), (84, 1), (85, 2), (86, 3), (87, 4), (90, 7), (91, 8), (92, 9), (93, 10), (94, 11), (95, 12), (96, 13), (97, 14), (98, 15), (99, 16), (100, 17), (101, 18), (102, 19), (103, 20), (104, 21), (105, 22), (106, 23), (107, 24), (108, 25), (109, 26), (110, 27), (111, 28), (112, 29), (113, 30), (114, 31), (115, 32), (116, 33), (117, 34), (118, 35), (119, 36), (120, 37), (121, 38), (122, 39), (123, 40), (124, 41), (125, 42), (126, 43), (127, 44), (128, 45), (129, 46), (130, 47), (131, 48), (132, 49), (133, 50)], [(83, 0), (84, 1), (85, 2), (86, 3), (87, 4), (88, 5), (91, 8), (92, 9), (93, 10), (94, 11), (95, 12), (96, 13), (97, 14), (98, 15), (99, 16), (100, 17), (101, 18), (102, 19), (103, 20), (104, 21), (105, 22), (106, 23), (107, 24), (108, 25), (109, 26), (110, 27), (111, 28), (112, 29), (113, 30), (114, 31), (115, 32), (116, 33), (117, 34), (118, 35), (119, 36), (120, 37), (121, 38), (122, 39), (123, 40), (124, 41), (125, 42), (126, 43), (127, 44), (128, 45), (129, 46), (130, 47), (131, 48), (132, 49), (133, 50)], [(83, 0), (84, 1), (85, 2), (86, 3), (87, 4), (88, 5), (89, 6), (99, 16), (100, 17), (101, 18), (102, 19), (103, 20), (104, 21), (105, 22), (106, 23), (107, 24), (108, 25), (109, 26), (110, 27), (111, 28), (112, 29), (113, 30), (114, 31), (115, 32), (116, 33), (117, 34), (118, 35), (119, 36), (120, 37), (121, 38), (122, 39), (123, 40), (124, 41), (125, 42), (126, 43), (127, 44), (128, 45), (129, 46), (130, 47), (131, 48), (132, 49), (133, 50)], [(83, 0), (84, 1), (85, 2), (86, 3), (87, 4), (88, 5), (89, 6), (90, 7), (92, 9), (93, 10), (94, 11), (95, 12), (97, 14), (98, 15), (99, 16), (100, 17), (101, 18), (102, 19), (103, 20), (104, 21), (105, 22), (106, 23), (107, 24), (108, 25), (109, 26), (110, 27), (111, 28), (112, 29), (113, 30), (114, 31), (115, 32), (116, 33), (117, 34), (118, 35), (119, 36), (120, 37), (121, 38), (122, 39), (123, 40), (124, 41), (125, 42), (126, 43), (127, 44), (128, 45), (129, 46), (130, 47), (131, 48), (132, 49), (133, 50)], [(83, 0), (84, 1), (85, 2), (86, 3), (87, 4), (88, 5), (89, 6), (90, 7), (91, 8), (93, 10), (95, 12), (96, 13), (97, 14), (98, 15), (99, 16), (100, 17), (101, 18), (102, 19), (103, 20), (104, 21), (105, 22), (106, 23), (107, 24), (108, 25), (109, 26), (110, 27), (111, 28), (112, 29), (113, 30), (114, 31), (115, 32), (116, 33), (117, 34), (118, 35), (119, 36), (120, 37), (121, 38), (122, 39), (123, 40), (124, 41), (125, 42), (126, 43), (127, 44), (128, 45), (129, 46), (130, 47), (131, 48), (132, 49), (133, 50)], [(83, 0), (84, 1), (85, 2), (86, 3), (87, 4), (88, 5), (89, 6), (90, 7), (91, 8), (92, 9), (95, 12), (96, 13), (97, 14), (98, 15), (99, 16), (100, 17), (101, 18), (102, 19), (103, 20), (104, 21), (105, 22), (106, 23), (107, 24), (108, 25), (109, 26), (110, 27), (111, 28), (112, 29), (113, 30), (114, 31), (115, 32), (116, 33), (117, 34), (118, 35), (119, 36), (120, 37), (121, 38), (122, 39), (123, 40), (124, 41), (125, 42), (126, 43), (127, 44), (128, 45), (129, 46), (130, 47), (131, 48), (132, 49), (133, 50)], [(83, 0), (84, 1), (85, 2), (86, 3), (87, 4), (88, 5), (89, 6), (90, 7), (91, 8), (92, 9), (93, 10), (96, 13), (97, 14), (98, 15), (99, 16), (100, 17), (101, 18), (102, 19), (103, 20), (104, 21), (105, 22), (106, 23), (107, 24), (108, 25), (109, 26), (110, 27), (111, 28), (112, 29), (113, 30), (114, 31), (115, 32), (116, 33), (117, 34), (118, 35), (119, 36), (120, 37), (121, 38), (122, 39), (123, 40), (124, 41), (125, 42), (126, 43), (127, 44), (128, 45), (129, 46), (130, 47), (131, 48), (132, 49), (133, 50)], [(83, 0), (84, 1), (85, 2), (86, 3), (87, 4), (88, 5), (89, 6), (90, 7), (91, 8), (92, 9), (93, 10), (94, 11), (97, 14), (98, 15), (99, 16), (100, 17), (101, 18), (102, 19), (103, 20), (104, 21), (105, 22), (106, 23), (107, 24), (108, 25), (109, 26), (110, 27), (111, 28), (112, 29), (113, 30), (114, 31), (115, 32), (116, 33), (117, 34), (118, 35), (119, 36), (120, 37), (121, 38), (122, 39), (123, 40), (124, 41), (125, 42), (126, 43), (127, 44), (128, 45), (129, 46), (130, 47), (131, 48), (132, 49), (133, 50)], [(83, 0), (84, 1), (85, 2), (86, 3), (87, 4), (88, 5), (89, 6), (90, 7), (91, 8), (92, 9), (93, 10), (94, 11), (95, 12), (98, 15), (99, 16), (100, 17), (101, 18), (102, 19), (103, 20), (104, 21), (105, 22), (106, 23), (107, 24), (108, 25), (109, 26), (110, 27), (111, 28), (112, 29), (113, 30), (114, 31), (115, 32), (116, 33), (117, 34), (118, 35), (119, 36), (120, 37), (121, 38), (122, 39), (123, 40), (124, 41), (125, 42), (126, 43), (127, 44), (128, 45), (129, 46), (130, 47), (131, 48), (132, 49), (133, 50)], [(83, 0), (84, 1), (85, 2), (86, 3), (87, 4), (88, 5), (89, 6), (90, 7), (91, 8), (92, 9), (93, 10), (94, 11), (95, 12), (96, 13), (99, 16), (100, 17), (101, 18), (102, 19), (103, 20), (104, 21), (105, 22), (106, 23), (107, 24), (108, 25), (109, 26), (110, 27), (111, 28), (112, 29), (113, 30), (114, 31), (115, 32), (116, 33), (117, 34), (118, 35), (119, 36), (120, 37), (121, 38), (122, 39), (123, 40), (124, 41), (125, 42), (126, 43), (127, 44), (128, 45), (129, 46), (130, 47), (131, 48), (132, 49), (133, 50)], [(83, 0), (84, 1), (85, 2), (86, 3), (87, 4), (88, 5), (89, 6), (90, 7), (91, 8), (92, 9), (93, 10), (94, 11), (95, 12), (96, 13), (97, 14), (100, 17), (101, 18), (102, 19), (103, 20), (104, 21), (105, 22), (106, 23), (107, 24), (108, 25), (109, 26), (110, 27), (111, 28), (112, 29), (113, 30), (114, 31), (115, 32), (116, 33), (117, 34), (118, 35), (119, 36), (120, 37), (121, 38), (122, 39), (123, 40), (124, 41), (125, 42), (126, 43), (127, 44), (128, 45), (129, 46), (130, 47), (131, 48), (132, 49), (133, 50)], [(83, 0), (84, 1), (85, 2), (86, 3), (87, 4), (88, 5), (89, 6), (90, 7), (91, 8), (92, 9), (93, 10), (94, 11), (95, 12), (96, 13), (97, 14), (98, 15), (104, 21), (105, 22), (106, 23), (107, 24), (108, 25), (109, 26), (110, 27), (111, 28), (112, 29), (113, 30), (114, 31), (115, 32), (116, 33), (117, 34), (118, 35), (119, 36), (120, 37), (121, 38), (122, 39), (123, 40), (124, 41), (125, 42), (126, 43), (127, 44), (128, 45), (129, 46), (130, 47), (131, 48), (132, 49), (133, 50)], [(83, 0), (84, 1), (85, 2), (86, 3), (87, 4), (88, 5), (89, 6), (90, 7), (91, 8), (92, 9), (93, 10), (94, 11), (95, 12), (96, 13), (97, 14), (98, 15), (99, 16), (102, 19), (103, 20), (104, 21), (105, 22), (106, 23), (107, 24), (108, 25), (109, 26), (110, 27), (111, 28), (112, 29), (113, 30), (114, 31), (115, 32), (116, 33), (117, 34), (118, 35), (119, 36), (120, 37), (121, 38), (122, 39), (123, 40), (124, 41), (125, 42), (126, 43), (127, 44), (128, 45), (129, 46), (130, 47), (131, 48), (132, 49), (133, 50)], [(83, 0), (84, 1), (85, 2), (86, 3), (87, 4), (88, 5), (89, 6), (90, 7), (91, 8), (92, 9), (93, 10), (94, 11), (95, 12), (96, 13), (97, 14), (98, 15), (99, 16), (100, 17), (103, 20), (104, 21), (105, 22), (106, 23), (107, 24), (108, 25), (109, 26), (110, 27), (111, 28), (112, 29), (113, 30), (114, 31), (115, 32), (116, 33), (117, 34), (118, 35), (119, 36), (120, 37), (121, 38), (122, 39), (123, 40), (124, 41), (125, 42), (126, 43), (127, 44), (128, 45), (129, 46), (130, 47), (131, 48), (132, 49), (133, 50)], [(83, 0), (84, 1), (85, 2), (86, 3), (87, 4), (88, 5), (89, 6), (90, 7), (91, 8), (92, 9), (93, 10), (94, 11), (95, 12), (96, 13), (97, 14), (98, 15), (99, 16), (100, 17), (101, 18), (104, 21), (105, 22), (106, 23), (107, 24), (108, 25), (109, 26), (110, 27), (111, 28), (112, 29), (113, 30), (114, 31), (115, 32), (116, 33), (117, 34), (118, 35), (119, 36), (120, 37), (121, 38), (122, 39), (123, 40), (124, 41), (125, 42), (126, 43), (127, 44), (128, 45), (129, 46), (130, 47), (131, 48), (132, 49), (133, 50)], [(83, 0), (84, 1), (85, 2), (86, 3), (87, 4), (88, 5), (89, 6), (90, 7), (91, 8), (92, 9), (93, 10), (94, 11), (95, 12), (96, 13), (97, 14), (98, 15), (99, 16), (100, 17), (101, 18), (102, 19), (105, 22), (106, 23), (107, 24), (108, 25), (109, 26), (110, 27), (111, 28), (112, 29), (113, 30), (114, 31), (115, 32), (116, 33), (117, 34), (118, 35), (119, 36), (120, 37), (121, 38), (122, 39), (123, 40), (124, 41), (125, 42), (126, 43), (127, 44), (128, 45), (129, 46), (130, 47), (131, 48), (132, 49), (133, 50)], [(83, 0), (84, 1), (85, 2), (86, 3), (87, 4), (88, 5), (89, 6), (90, 7), (91, 8), (92, 9), (93, 10), (94, 11), (95, 12), (96, 13), (97, 14), (98, 15), (99, 16), (100, 17), (101, 18), (102, 19), (103, 20), (116, 33), (117, 34), (118, 35), (119, 36), (120, 37), (121, 38), (122, 39), (123, 40), (124, 41), (125, 42), (126, 43), (127, 44), (128, 45), (129, 46), (130, 47), (131, 48), (132, 49), (133, 50)], [(83, 0), (84, 1), (85, 2), (86, 3), (87, 4), (88, 5), (89, 6), (90, 7), (91, 8), (92, 9), (93, 10), (94, 11), (95, 12), (96, 13), (97, 14), (98, 15), (99, 16), (100, 17), (101, 18), (102, 19), (103, 20), (104, 21), (106, 23), (108, 25), (109, 26), (110, 27), (111, 28), (112, 29), (113, 30), (114, 31), (115, 32), (116, 33), (117, 34), (118, 35), (119, 36), (120, 37), (121, 38), (122, 39), (123, 40), (124, 41), (125, 42), (126, 43), (127, 44), (128, 45), (129, 46), (130, 47), (131, 48), (132, 49), (133, 50)], [(83, 0), (84, 1), (85, 2), (86, 3), (87, 4), (88, 5), (89, 6), (90, 7), (91, 8), (92, 9), (93, 10), (94, 11), (95, 12), (96, 13), (97, 14), (98, 15), (99, 16), (100, 17), (101, 18), (102, 19), (103, 20), (104, 21), (105, 22), (108, 25), (109, 26), (110, 27), (111, 28), (112, 29), (113, 30), (114, 31), (115, 32), (116, 33), (117, 34), (118, 35), (119, 36), (120, 37), (121, 38), (122, 39), (123, 40), (124, 41), (125, 42), (126, 43), (127, 44), (128, 45), (129, 46), (130, 47), (131, 48), (132, 49), (133, 50)], [(83, 0), (84, 1), (85, 2), (86, 3), (87, 4), (88, 5), (89, 6), (90, 7), (91, 8), (92, 9), (93, 10), (94, 11), (95, 12), (96, 13), (97, 14), (98, 15), (99, 16), (100, 17), (101, 18), (102, 19), (103, 20), (104, 21), (105, 22), (106, 23), (109, 26), (110, 27), (111, 28), (112, 29), (113, 30), (114, 31), (115, 32), (116, 33), (117, 34), (118, 35), (119, 36), (120, 37), (121, 38), (122, 39), (123, 40), (124, 41), (125, 42), (126, 43), (127, 44), (128, 45), (129, 46), (130, 47), (131, 48), (132, 49), (133, 50)], [(83, 0), (84, 1), (85, 2), (86, 3), (87, 4), (88, 5), (89, 6), (90, 7), (91, 8), (92, 9), (93, 10), (94, 11), (95, 12), (96, 13), (97, 14), (98, 15), (99, 16), (100, 17), (101, 18), (102, 19), (103, 20), (104, 21), (105, 22), (106, 23), (107, 24), (110, 27), (111, 28), (112, 29), (113, 30), (114, 31), (115, 32), (116, 33), (117, 34), (118, 35), (119, 36), (120, 37), (121, 38), (122, 39), (123, 40), (124, 41), (125, 42), (126, 43), (127, 44), (128, 45), (129, 46), (130, 47), (131, 48), (132, 49), (133, 50)], [(83, 0), (84, 1), (85, 2), (86, 3), (87, 4), (88, 5), (89, 6), (90, 7), (91, 8), (92, 9), (93, 10), (94, 11), (95, 12), (96, 13), (97, 14), (98, 15), (99, 16), (100, 17), (101, 18), (102, 19), (103, 20), (104, 21), (105, 22), (106, 23), (107, 24), (108, 25), (110, 27), (111, 28), (112, 29), (114, 31), (115, 32), (116, 33), (117, 34), (118, 35), (119, 36), (120, 37), (121, 38), (122, 39), (123, 40), (124, 41), (125, 42), (126, 43), (127, 44), (128, 45), (129, 46), (130, 47), (131, 48), (132, 49), (133, 50)], [(83, 0), (84, 1), (85, 2), (86, 3), (87, 4), (88, 5), (89, 6), (90, 7), (91, 8), (92, 9), (93, 10), (94, 11), (95, 12), (96, 13), (97, 14), (98, 15), (99, 16), (100, 17), (101, 18), (102, 19), (103, 20), (104, 21), (105, 22), (106, 23), (107, 24), (108, 25), (109, 26), (111, 28), (112, 29), (114, 31), (115, 32), (116, 33), (117, 34), (118, 35), (119, 36), (120, 37), (121, 38), (122, 39), (123, 40), (124, 41), (125, 42), (126, 43), (127, 44), (128, 45), (129, 46), (130, 47), (131, 48), (132, 49), (133, 50)], [(83, 0), (84, 1), (85, 2), (86, 3), (87, 4), (88, 5), (89, 6), (90, 7), (91, 8), (92, 9), (93, 10), (94, 11), (95, 12), (96, 13), (97, 14), (98, 15), (99, 16), (100, 17), (101, 18), (102, 19), (103, 20), (104, 21), (105, 22), (106, 23), (107, 24), (108, 25), (109, 26), (110, 27), (113, 30), (114, 31), (115, 32), (116, 33), (117, 34), (118, 35), (119, 36), (120, 37), (121, 38), (122, 39), (123, 40), (124, 41), (125, 42), (126, 43), (127, 44), (128, 45), (129, 46), (130, 47), (131, 48), (132, 49), (133, 50)], [(83, 0), (84, 1), (85, 2), (86, 3), (87, 4), (88, 5), (89, 6), (90, 7), (91, 8), (92, 9), (93, 10), (94, 11), (95, 12), (96, 13), (97, 14), (98, 15), (99, 16), (100, 17), (101, 18), (102, 19), (103, 20), (104, 21), (105, 22), (106, 23), (107, 24), (108, 25), (109, 26), (110, 27), (111, 28), (114, 31), (115, 32), (116, 33), (117, 34), (118, 35), (119, 36), (120, 37), (121, 38), (122, 39), (123, 40), (124, 41), (125, 42), (126, 43), (127, 44), (128, 45), (129, 46), (130, 47), (131, 48), (132, 49), (133, 50)], [(83, 0), (84, 1), (85, 2), (86, 3), (87, 4), (88, 5), (89, 6), (90, 7), (91, 8), (92, 9), (93, 10), (94, 11), (95, 12), (96, 13), (97, 14), (98, 15), (99, 16), (100, 17), (101, 18), (102, 19), (103, 20), (104, 21), (105, 22), (106, 23), (107, 24), (108, 25), (109, 26), (110, 27), (111, 28), (112, 29), (115, 32), (116, 33), (117, 34), (118, 35), (119, 36), (120, 37), (121, 38), (122, 39), (123, 40), (124, 41), (125, 42), (126, 43), (127, 44), (128, 45), (129, 46), (130, 47), (131, 48), (132, 49), (133, 50)], [(83, 0), (84, 1), (85, 2), (86, 3), (87, 4), (88, 5), (89, 6), (90, 7), (91, 8), (92, 9), (93, 10), (94, 11), (95, 12), (96, 13), (97, 14), (98, 15), (99, 16), (100, 17), (101, 18), (102, 19), (103, 20), (104, 21), (105, 22), (106, 23), (107, 24), (108, 25), (109, 26), (110, 27), (111, 28), (112, 29), (113, 30), (116, 33), (117, 34), (118, 35), (119, 36), (120, 37), (121, 38), (122, 39), (123, 40), (124, 41), (125, 42), (126, 43), (127, 44), (128, 45), (129, 46), (130, 47), (131, 48), (132, 49), (133, 50)], [(83, 0), (84, 1), (85, 2), (86, 3), (87, 4), (88, 5), (89, 6), (90, 7), (91, 8), (92, 9), (93, 10), (94, 11), (95, 12), (96, 13), (97, 14), (98, 15), (99, 16), (100, 17), (101, 18), (102, 19), (103, 20), (104, 21), (105, 22), (106, 23), (107, 24), (108, 25), (109, 26), (110, 27), (111, 28), (112, 29), (113, 30), (114, 31), (117, 34), (118, 35), (119, 36), (120, 37), (121, 38), (122, 39), (123, 40), (124, 41), (125, 42), (126, 43), (127, 44), (128, 45), (129, 46), (130, 47), (131, 48), (132, 49), (133, 50)], [(83, 0), (84, 1), (85, 2), (86, 3), (87, 4), (88, 5), (89, 6), (90, 7), (91, 8), (92, 9), (93, 10), (94, 11), (95, 12), (96, 13), (97, 14), (98, 15), (99, 16), (100, 17), (101, 18), (102, 19), (103, 20), (104, 21), (105, 22), (106, 23), (107, 24), (108, 25), (109, 26), (110, 27), (111, 28), (112, 29), (113, 30), (114, 31), (115, 32), (128, 45), (129, 46), (130, 47), (131, 48), (132, 49), (133, 50)], [(83, 0), (84, 1), (85, 2), (86, 3), (87, 4), (88, 5), (89, 6), (90, 7), (91, 8), (92, 9), (93, 10), (94, 11), (95, 12), (96, 13), (97, 14), (98, 15), (99, 16), (100, 17), (101, 18), (102, 19), (103, 20), (104, 21), (105, 22), (106, 23), (107, 24), (108, 25), (109, 26), (110, 27), (111, 28), (112, 29), (113, 30), (114, 31), (115, 32), (116, 33), (118, 35), (120, 37), (121, 38), (122, 39), (123, 40), (124, 41), (125, 42), (126, 43), (127, 44), (128, 45), (129, 46), (130, 47), (131, 48), (132, 49), (133, 50)], [(83, 0), (84, 1), (85, 2), (86, 3), (87, 4), (88, 5), (89, 6), (90, 7), (91, 8), (92, 9), (93, 10), (94, 11), (95, 12), (96, 13), (97, 14), (98, 15), (99, 16), (100, 17), (101, 18), (102, 19), (103, 20), (104, 21), (105, 22), (106, 23), (107, 24), (108, 25), (109, 26), (110, 27), (111, 28), (112, 29), (113, 30), (114, 31), (115, 32), (116, 33), (117, 34), (120, 37), (121, 38), (122, 39), (123, 40), (124, 41), (125, 42), (126, 43), (127, 44), (128, 45), (129, 46), (130, 47), (131, 48), (132, 49), (133, 50)], [(83, 0), (84, 1), (85, 2), (86, 3), (87, 4), (88, 5), (89, 6), (90, 7), (91, 8), (92, 9), (93, 10), (94, 11), (95, 12), (96, 13), (97, 14), (98, 15), (99, 16), (100, 17), (101, 18), (102, 19), (103, 20), (104, 21), (105, 22), (106, 23), (107, 24), (108, 25), (109, 26), (110, 27), (111, 28), (112, 29), (113, 30), (114, 31), (115, 32), (116, 33), (117, 34), (118, 35), (121, 38), (122, 39), (123, 40), (124, 41), (125, 42), (126, 43), (127, 44), (128, 45), (129, 46), (130, 47), (131, 48), (132, 49), (133, 50)], [(83, 0), (84, 1), (85, 2), (86, 3), (87, 4), (88, 5), (89, 6), (90, 7), (91, 8), (92, 9), (93, 10), (94, 11), (95, 12), (96, 13), (97, 14), (98, 15), (99, 16), (100, 17), (101, 18), (102, 19), (103, 20), (104, 21), (105, 22), (106, 23), (107, 24), (108, 25), (109, 26), (110, 27), (111, 28), (112, 29), (113, 30), (114, 31), (115, 32), (116, 33), (117, 34), (118, 35), (119, 36), (122, 39), (123, 40), (124, 41), (125, 42), (126, 43), (127, 44), (128, 45), (129, 46), (130, 47), (131, 48), (132, 49), (133, 50)], [(83, 0), (84, 1), (85, 2), (86, 3), (87, 4), (88, 5), (89, 6), (90, 7), (91, 8), (92, 9), (93, 10), (94, 11), (95, 12), (96, 13), (97, 14), (98, 15), (99, 16), (100, 17), (101, 18), (102, 19), (103, 20), (104, 21), (105, 22), (106, 23), (107, 24), (108, 25), (109, 26), (110, 27), (111, 28), (112, 29), (113, 30), (114, 31), (115, 32), (116, 33), (117, 34), (118, 35), (119, 36), (120, 37), (122, 39), (123, 40), (124, 41), (126, 43), (127, 44), (128, 45), (129, 46), (130, 47), (131, 48), (132, 49), (133, 50)], [(83, 0), (84, 1), (85, 2), (86, 3), (87, 4), (88, 5), (89, 6), (90, 7), (91, 8), (92, 9), (93, 10), (94, 11), (95, 12), (96, 13), (97, 14), (98, 15), (99, 16), (100, 17), (101, 18), (102, 19), (103, 20), (104, 21), (105, 22), (106, 23), (107, 24), (108, 25), (109, 26), (110, 27), (111, 28), (112, 29), (113, 30), (114, 31), (115, 32), (116, 33), (117, 34), (118, 35), (119, 36), (120, 37), (121, 38), (123, 40), (124, 41), (126, 43), (127, 44), (128, 45), (129, 46), (130, 47), (131, 48), (132, 49), (133, 50)], [(83, 0), (84, 1), (85, 2), (86, 3), (87, 4), (88, 5), (89, 6), (90, 7), (91, 8), (92, 9), (93, 10), (94, 11), (95, 12), (96, 13), (97, 14), (98, 15), (99, 16), (100, 17), (101, 18), (102, 19), (103, 20), (104, 21), (105, 22), (106, 23), (107, 24), (108, 25), (109, 26), (110, 27), (111, 28), (112, 29), (113, 30), (114, 31), (115, 32), (116, 33), (117, 34), (118, 35), (119, 36), (120, 37), (121, 38), (122, 39), (125, 42), (126, 43), (127, 44), (128, 45), (129, 46), (130, 47), (131, 48), (132, 49), (133, 50)], [(83, 0), (84, 1), (85, 2), (86, 3), (87, 4), (88, 5), (89, 6), (90, 7), (91, 8), (92, 9), (93, 10), (94, 11), (95, 12), (96, 13), (97, 14), (98, 15), (99, 16), (100, 17), (101, 18), (102, 19), (103, 20), (104, 21), (105, 22), (106, 23), (107, 24), (108, 25), (109, 26), (110, 27), (111, 28), (112, 29), (113, 30), (114, 31), (115, 32), (116, 33), (117, 34), (118, 35), (119, 36), (120, 37), (121, 38), (122, 39), (123, 40), (126, 43), (127, 44), (128, 45), (129, 46), (130, 47), (131, 48), (132, 49), (133, 50)], [(83, 0), (84, 1), (85, 2), (86, 3), (87, 4), (88, 5), (89, 6), (90, 7), (91, 8), (92, 9), (93, 10), (94, 11), (95, 12), (96, 13), (97, 14), (98, 15), (99, 16), (100, 17), (101, 18), (102, 19), (103, 20), (104, 21), (105, 22), (106, 23), (107, 24), (108, 25), (109, 26), (110, 27), (111, 28), (112, 29), (113, 30), (114, 31), (115, 32), (116, 33), (117, 34), (118, 35), (119, 36), (120, 37), (121, 38), (122, 39), (123, 40), (124, 41), (127, 44), (128, 45), (129, 46), (130, 47), (131, 48), (132, 49), (133, 50)], [(83, 0), (84, 1), (85, 2), (86, 3), (87, 4), (88, 5), (89, 6), (90, 7), (91, 8), (92, 9), (93, 10), (94, 11), (95, 12), (96, 13), (97, 14), (98, 15), (99, 16), (100, 17), (101, 18), (102, 19), (103, 20), (104, 21), (105, 22), (106, 23), (107, 24), (108, 25), (109, 26), (110, 27), (111, 28), (112, 29), (113, 30), (114, 31), (115, 32), (116, 33), (117, 34), (118, 35), (119, 36), (120, 37), (121, 38), (122, 39), (123, 40), (124, 41), (125, 42), (128, 45), (129, 46), (130, 47), (131, 48), (132, 49), (133, 50)], [(83, 0), (84, 1), (85, 2), (86, 3), (87, 4), (88, 5), (89, 6), (90, 7), (91, 8), (92, 9), (93, 10), (94, 11), (95, 12), (96, 13), (97, 14), (98, 15), (99, 16), (100, 17), (101, 18), (102, 19), (103, 20), (104, 21), (105, 22), (106, 23), (107, 24), (108, 25), (109, 26), (110, 27), (111, 28), (112, 29), (113, 30), (114, 31), (115, 32), (116, 33), (117, 34), (118, 35), (119, 36), (120, 37), (121, 38), (122, 39), (123, 40), (124, 41), (125, 42), (126, 43), (129, 46), (130, 47), (131, 48), (132, 49), (133, 50)], [(83, 0), (84, 1), (85, 2), (86, 3), (87, 4), (88, 5), (89, 6), (90, 7), (91, 8), (92, 9), (93, 10), (94, 11), (95, 12), (96, 13), (97, 14), (98, 15), (99, 16), (100, 17), (101, 18), (102, 19), (103, 20), (104, 21), (105, 22), (106, 23), (107, 24), (108, 25), (109, 26), (110, 27), (111, 28), (112, 29), (113, 30), (114, 31), (115, 32), (116, 33), (117, 34), (118, 35), (119, 36), (120, 37), (121, 38), (122, 39), (123, 40), (124, 41), (125, 42), (126, 43), (127, 44)], [(83, 0), (84, 1), (85, 2), (86, 3), (87, 4), (88, 5), (89, 6), (90, 7), (91, 8), (92, 9), (93, 10), (94, 11), (95, 12), (96, 13), (97, 14), (98, 15), (99, 16), (100, 17), (101, 18), (102, 19), (103, 20), (104, 21), (105, 22), (106, 23), (107, 24), (108, 25), (109, 26), (110, 27), (111, 28), (112, 29), (113, 30), (114, 31), (115, 32), (116, 33), (117, 34), (118, 35), (119, 36), (120, 37), (121, 38), (122, 39), (123, 40), (124, 41), (125, 42), (126, 43), (127, 44), (128, 45), (130, 47), (132, 49), (133, 50)], [(83, 0), (84, 1), (85, 2), (86, 3), (87, 4), (88, 5), (89, 6), (90, 7), (91, 8), (92, 9), (93, 10), (94, 11), (95, 12), (96, 13), (97, 14), (98, 15), (99, 16), (100, 17), (101, 18), (102, 19), (103, 20), (104, 21), (105, 22), (106, 23), (107, 24), (108, 25), (109, 26), (110, 27), (111, 28), (112, 29), (113, 30), (114, 31), (115, 32), (116, 33), (117, 34), (118, 35), (119, 36), (120, 37), (121, 38), (122, 39), (123, 40), (124, 41), (125, 42), (126, 43), (127, 44), (128, 45), (129, 46), (132, 49), (133, 50)], [(83, 0), (84, 1), (85, 2), (86, 3), (87, 4), (88, 5), (89, 6), (90, 7), (91, 8), (92, 9), (93, 10), (94, 11), (95, 12), (96, 13), (97, 14), (98, 15), (99, 16), (100, 17), (101, 18), (102, 19), (103, 20), (104, 21), (105, 22), (106, 23), (107, 24), (108, 25), (109, 26), (110, 27), (111, 28), (112, 29), (113, 30), (114, 31), (115, 32), (116, 33), (117, 34), (118, 35), (119, 36), (120, 37), (121, 38), (122, 39), (123, 40), (124, 41), (125, 42), (126, 43), (127, 44), (128, 45), (129, 46), (130, 47), (133, 50)], [(83, 0), (84, 1), (85, 2), (86, 3), (87, 4), (88, 5), (89, 6), (90, 7), (91, 8), (92, 9), (93, 10), (94, 11), (95, 12), (96, 13), (97, 14), (98, 15), (99, 16), (100, 17), (101, 18), (102, 19), (103, 20), (104, 21), (105, 22), (106, 23), (107, 24), (108, 25), (109, 26), (110, 27), (111, 28), (112, 29), (113, 30), (114, 31), (115, 32), (116, 33), (117, 34), (118, 35), (119, 36), (120, 37), (121, 38), (122, 39), (123, 40), (124, 41), (125, 42), (126, 43), (127, 44), (128, 45), (129, 46), (130, 47), (131, 48)], [(83, 0), (84, 1), (85, 2), (86, 3), (87, 4), (88, 5), (89, 6), (90, 7), (91, 8), (92, 9), (93, 10), (94, 11), (95, 12), (96, 13), (97, 14), (98, 15), (99, 16), (100, 17), (101, 18), (102, 19), (103, 20), (104, 21), (105, 22), (106, 23), (107, 24), (108, 25), (109, 26), (110, 27), (111, 28), (112, 29), (113, 30), (114, 31), (115, 32), (116, 33), (117, 34), (118, 35), (119, 36), (120, 37), (121, 38), (122, 39), (123, 40), (124, 41), (125, 42), (126, 43), (127, 44), (128, 45), (129, 46), (130, 47), (131, 48), (132, 49)]] [(83, 0), (84, 1), (85, 2), (86, 3), (87, 4), (88, 5), (89, 6), (90, 7), (91, 8), (92, 9), (93, 10), (94, 11), (95, 12), (96, 13), (97, 14), (98, 15), (99, 16), (100, 17), (101, 18), (102, 19), (103, 20), (104, 21), (105, 22), (106, 23), (107, 24), (108, 25), (109, 26), (110, 27), (111, 28), (112, 29), (113, 30), (114, 31), (115, 32), (116, 33), (117, 34), (118, 35), (119, 36), (120, 37), (121, 38), (122, 39), (123, 40), (124, 41), (125, 42), (126, 43), (127, 44), (128, 45), (129, 46), (130, 47), (131, 48), (132, 49), (133, 50)]
                [Is (valueV (q - 1) e k), Is (.slice (some ⟨wq.heap.size, 0, none⟩) 5 5), Is (.int .i64 k), Is (.pointer (some ⟨wq.heap.size, k, none⟩)), Is (.int .i64 e), Is (.bool true), Is (.bool false), Is (.bool false), Is (valueV (q - 1) e k), Is (.slice (some ⟨wq.heap.size, 0, none⟩) 5 5), Is (.int .i64 k), Is (.pointer (some ⟨wq.heap.size, k, none⟩)), Is (.int .i64 e), Is (.bool true), Is (.bool false), Is (.bool false), Is (.bool false), Is (valueV (q - 1) e k), Is (.bool true), Is (.bool false), Is (.bool false), Is (.bool false), Is (.slice (some ⟨wq.heap.size, 0, none⟩) 5 5), Is (.int .i64 k), Is (.pointer (some ⟨wq.heap.size, k, none⟩)), Is (.int .i64 e), Is (.agg #[.int .i64 e, .int .i64 1]), Is (valueV (q - 1) e k), Is (valueV (q - 1) e k), fun v w => ValsAt w v [((q : Int) - 1, e, (k : Int))] ∧ SliceOK v, Is (.bool true), Is (.bool false), Is (.bool false), Is (.bool false), Is (.slice (some ⟨wq.heap.size, 0, none⟩) 5 5), Is (.int .i64 k), Is (.pointer (some ⟨wq.heap.size, k, none⟩)), Is (.int .i64 e), Is (.agg #[.int .i64 9, .int .i64 e]), Is (valueV (q - 1) e k), Is (valueV (q - 1) e k), fun v w => ValsAt w v [((q : Int) - 1, e, (k : Int))] ∧ SliceOK v, Is (.bool true), Is (.bool false), Is (.bool false), Is (.bool false), Is (.agg #[.int .i64 9, .int .i64 3]), Is (valueV (q - 1) e k), Is (.bool true), Is (.bool false), Is (.bool false)]
                (by kernel_rfl) Grew.trans Grew.refl (Grew.refl _).drew (by kernel_rfl) ⟨is_st, is_st, is_st, is_st, is_st, is_st, is_st, is_st, is_st, is_st, is_st, is_st, is_st, is_st, is_st, is_st, is_st, is_st, is_st, is_st, is_st, is_st, is_st, is_st, is_st, is_st, is_st, is_st, is_st, valsOK_st _, is_st, is_st, is_st, is_st, is_st, is_st, is_st, is_st, is_st, is_st, is_st, valsOK_st _, is_st, is_st, is_st, is_st, is_st, is_st, is_st, is_st, is_st, trivial⟩ ⟨?_, ?_, ?_, ?_, ?_, ?_, ?_, ?_, ?_, ?_, ?_, ?_, ?_, ?_, ?_, ?_, ?_, ?_, ?_, ?_, ?_, ?_, ?_, ?_, ?_, ?_, ?_, ?_, ?_, ?_, ?_, ?_, ?_, ?_, ?_, ?_, ?_, ?_, ?_, ?_, ?_, ?_, ?_, ?_, ?_, ?_, ?_, ?_, ?_, ?_, ?_, trivial⟩ rfl ?_
              · intro y w2 hG hD K hK
                have dce := hG.cell ce
                have dd0 := hG.cell d0
                have dd1 := hG.cell d1
                have dd2 := hG.cell d2
                simp only [fillL, Act.put, List.setIfInBounds_toArray, List.set_cons_zero, List.set_cons_succ, List.getD_cons_zero, List.getD_cons_succ, Is] at hK ⊢
                refine ite_yes (by rfl) ?_
                go_simp
                exact hK _ _ _ rfl (Grew.refl _) rfl
              · intro y w2 hG hD K hK
                simp only [fillL, Act.put, List.setIfInBounds_toArray, List.set_cons_zero, List.set_cons_succ, List.getD_cons_zero, List.getD_cons_succ, Is] at hK ⊢
                refine ite_yes (by rfl) ?_
                go_simp
                exact hK _ _ _ rfl (Grew.refl _) rfl
              · intro y w2 hG hD K hK
                simp only [fillL, Act.put, List.setIfInBounds_toArray, List.set_cons_zero, List.set_cons_succ, List.getD_cons_zero, List.getD_cons_succ, Is] at hK ⊢
                refine ite_yes (by rfl) ?_
                go_simp
                exact hK _ _ _ rfl (Grew.refl _) rfl
              · intro y w2 hG hD K hK
                simp only [depsH, List.getD_cons_zero, List.getD_cons_succ, Is, and_true] at hD
                have h1 := hD.1
                have h2 := hD.2
                clear hD
                simp only [fillL, Act.put, List.setIfInBounds_toArray, List.set_cons_zero, List.set_cons_succ, List.getD_cons_zero, List.getD_cons_succ, Is] at hK ⊢
                rw [h1, h2] at hK ⊢
                refine ite_yes (by rfl) ?_
                go_simp
                exact hK _ _ _ rfl (Grew.refl _) rfl
              · intro y w2 hG hD K hK
                simp only [depsH, List.getD_cons_zero, List.getD_cons_succ, Is, and_true] at hD
                have h3 := hD
                clear hD
                have dce := hG.cell ce
                have dd0 := hG.cell d0
                have dd1 := hG.cell d1
                have dd2 := hG.cell d2
                simp only [fillL, Act.put, List.setIfInBounds_toArray, List.set_cons_zero, List.set_cons_succ, List.getD_cons_zero, List.getD_cons_succ, Is] at hK ⊢
                rw [h3] at hK ⊢
                refine ite_yes (by rfl) ?_
                go_simp
                exact hK _ _ _ rfl (Grew.refl _) rfl
              · intro y w2 hG hD K hK
                simp only [depsH, List.getD_cons_zero, List.getD_cons_succ, Is, and_true] at hD
                have h0 := hD.1
                have h4 := hD.2
                clear hD
                simp only [fillL, Act.put, List.setIfInBounds_toArray, List.set_cons_zero, List.set_cons_succ, List.getD_cons_zero, List.getD_cons_succ, Is] at hK ⊢
                rw [h0, h4] at hK ⊢
                refine ite_yes (by rfl) ?_
                go_simp
                refine (fitOnes_any _ _ _ _ _ _ k0 k1).mono ?_
                rintro y3 w3 ⟨rfl, hg⟩
                exact hK _ _ _ rfl hg rfl
              · intro y w2 hG hD K hK
                simp only [depsH, List.getD_cons_zero, List.getD_cons_succ, Is, and_true] at hD
                have h5 := hD
                clear hD
                simp only [fillL, Act.put, List.setIfInBounds_toArray, List.set_cons_zero, List.set_cons_succ, List.getD_cons_zero, List.getD_cons_succ, Is] at hK ⊢
                rw [h5] at hK ⊢
                refine ite_yes (by rfl) ?_
                go_simp
                exact hK _ _ _ rfl (Grew.refl _) rfl
              · intro y w2 hG hD K hK
                simp only [depsH, List.getD_cons_zero, List.getD_cons_succ, Is, and_true] at hD
                have h6 := hD
                clear hD
                simp only [fillL, Act.put, List.setIfInBounds_toArray, List.set_cons_zero, List.set_cons_succ, List.getD_cons_zero, List.getD_cons_succ, Is] at hK ⊢
                rw [h6] at hK ⊢
                refine ite_yes (by rfl) ?_
                go_simp
                exact hK _ _ _ rfl (Grew.refl _) rfl
              · intro y w2 hG hD K hK
                simp only [depsH, List.getD_cons_zero, List.getD_cons_succ, Is, and_true] at hD
                have h7 := hD
                clear hD
                have dce := hG.cell ce
                have dd0 := hG.cell d0
                have dd1 := hG.cell d1
                have dd2 := hG.cell d2
                simp only [fillL, Act.put, List.setIfInBounds_toArray, List.set_cons_zero, List.set_cons_succ, List.getD_cons_zero, List.getD_cons_succ, Is] at hK ⊢
                rw [h7] at hK ⊢
                refine ite_yes (by rfl) ?_
                go_simp
                exact hK _ _ _ rfl (Grew.refl _) rfl
              · intro y w2 hG hD K hK
                simp only [depsH, List.getD_cons_zero, List.getD_cons_succ, Is, and_true] at hD
                have h7 := hD
                clear hD
                simp only [fillL, Act.put, List.setIfInBounds_toArray, List.set_cons_zero, List.set_cons_succ, List.getD_cons_zero, List.getD_cons_succ, Is] at hK ⊢
                rw [h7] at hK ⊢
                refine ite_yes (by rfl) ?_
                go_simp
                exact hK _ _ _ rfl (Grew.refl _) rfl
              · intro y w2 hG hD K hK
                simp only [depsH, List.getD_cons_zero, List.getD_cons_succ, Is, and_true] at hD
                have h7 := hD
                clear hD
                simp only [fillL, Act.put, List.setIfInBounds_toArray, List.set_cons_zero, List.set_cons_succ, List.getD_cons_zero, List.getD_cons_succ, Is] at hK ⊢
                rw [h7] at hK ⊢
                refine ite_yes (by rfl) ?_
                go_simp
                exact hK _ _ _ rfl (Grew.refl _) rfl
              · intro y w2 hG hD K hK
                simp only [depsH, List.getD_cons_zero, List.getD_cons_succ, Is, and_true] at hD
                have h7 := hD.1
                have h9 := hD.2.1
                have h10 := hD.2.2
                clear hD
                simp only [fillL, Act.put, List.setIfInBounds_toArray, List.set_cons_zero, List.set_cons_succ, List.getD_cons_zero, List.getD_cons_succ, Is] at hK ⊢
                rw [h7, h9, h10] at hK ⊢
                refine ite_yes (by rfl) ?_
                go_simp
                exact hK _ _ _ rfl (Grew.refl _) rfl
              · intro y w2 hG hD K hK
                simp only [depsH, List.getD_cons_zero, List.getD_cons_succ, Is, and_true] at hD
                have h7 := hD.1
                have h11 := hD.2
                clear hD
                have dce := hG.cell ce
                have dd0 := hG.cell d0
                have dd1 := hG.cell d1
                have dd2 := hG.cell d2
                simp only [fillL, Act.put, List.setIfInBounds_toArray, List.set_cons_zero, List.set_cons_succ, List.getD_cons_zero, List.getD_cons_succ, Is] at hK ⊢
                rw [h7, h11] at hK ⊢
                refine ite_yes (by rfl) ?_
                go_simp
                exact hK _ _ _ rfl (Grew.refl _) rfl
              · intro y w2 hG hD K hK
                simp only [depsH, List.getD_cons_zero, List.getD_cons_succ, Is, and_true] at hD
                have h7 := hD.1
                have h8 := hD.2.1
                have h12 := hD.2.2
                clear hD
                simp only [fillL, Act.put, List.setIfInBounds_toArray, List.set_cons_zero, List.set_cons_succ, List.getD_cons_zero, List.getD_cons_succ, Is] at hK ⊢
                rw [h7, h8, h12] at hK ⊢
                refine ite_yes (by rfl) ?_
                go_simp
                refine (fitOnes_any _ _ _ _ _ _ k0 k1).mono ?_
                rintro y3 w3 ⟨rfl, hg⟩
                exact hK _ _ _ rfl hg rfl
              · intro y w2 hG hD K hK
                simp only [depsH, List.getD_cons_zero, List.getD_cons_succ, Is, and_true] at hD
                have h7 := hD.1
                have h13 := hD.2
                clear hD
                simp only [fillL, Act.put, List.setIfInBounds_toArray, List.set_cons_zero, List.set_cons_succ, List.getD_cons_zero, List.getD_cons_succ, Is] at hK ⊢
                rw [h7, h13] at hK ⊢
                refine ite_yes (by rfl) ?_
                go_simp
                exact hK _ _ _ rfl (Grew.refl _) rfl
              · intro y w2 hG hD K hK
                simp only [depsH, List.getD_cons_zero, List.getD_cons_succ, Is, and_true] at hD
                have h7 := hD.1
                have h14 := hD.2
                clear hD
                simp only [fillL, Act.put, List.setIfInBounds_toArray, List.set_cons_zero, List.set_cons_succ, List.getD_cons_zero, List.getD_cons_succ, Is] at hK ⊢
                rw [h7, h14] at hK ⊢
                refine ite_yes (by rfl) ?_
                go_simp
                exact hK _ _ _ rfl (Grew.refl _) rfl
              · intro y w2 hG hD K hK
                simp only [depsH, List.getD_cons_zero, List.getD_cons_succ, Is, and_true] at hD
                have h15 := hD
                clear hD
                simp only [fillL, Act.put, List.setIfInBounds_toArray, List.set_cons_zero, List.set_cons_succ, List.getD_cons_zero, List.getD_cons_succ, Is] at hK ⊢
                rw [h15] at hK ⊢
                refine ite_yes (by rfl) ?_
                go_simp
                exact hK _ _ _ rfl (Grew.refl _) rfl
              · intro y w2 hG hD K hK
                simp only [depsH, List.getD_cons_zero, List.getD_cons_succ, Is, and_true] at hD
                have h16 := hD
                clear hD
                have dce := hG.cell ce
                have dd0 := hG.cell d0
                have dd1 := hG.cell d1
                have dd2 := hG.cell d2
                simp only [fillL, Act.put, List.setIfInBounds_toArray, List.set_cons_zero, List.set_cons_succ, List.getD_cons_zero, List.getD_cons_succ, Is] at hK ⊢
                rw [h16] at hK ⊢
                refine ite_yes (by rfl) ?_
                go_simp
                exact hK _ _ _ rfl (Grew.refl _) rfl
              · intro y w2 hG hD K hK
                simp only [depsH, List.getD_cons_zero, List.getD_cons_succ, Is, and_true] at hD
                have h16 := hD.1
                have h17 := hD.2
                clear hD
                simp only [fillL, Act.put, List.setIfInBounds_toArray, List.set_cons_zero, List.set_cons_succ, List.getD_cons_zero, List.getD_cons_succ, Is] at hK ⊢
                rw [h16, h17] at hK ⊢
                refine ite_yes (by rfl) ?_
                go_simp
                refine (fitOnes_any _ _ _ _ _ _ k0 k1).mono ?_
                rintro y3 w3 ⟨rfl, hg⟩
                exact hK _ _ _ rfl hg rfl
              · intro y w2 hG hD K hK
                simp only [depsH, List.getD_cons_zero, List.getD_cons_succ, Is, and_true] at hD
                have h16 := hD.1
                have h18 := hD.2
                clear hD
                simp only [fillL, Act.put, List.setIfInBounds_toArray, List.set_cons_zero, List.set_cons_succ, List.getD_cons_zero, List.getD_cons_succ, Is] at hK ⊢
                rw [h16, h18] at hK ⊢
                refine ite_yes (by rfl) ?_
                go_simp
                exact hK _ _ _ rfl (Grew.refl _) rfl
              · intro y w2 hG hD K hK
                simp only [depsH, List.getD_cons_zero, List.getD_cons_succ, Is, and_true] at hD
                have h16 := hD.1
                have h19 := hD.2
                clear hD
                simp only [fillL, Act.put, List.setIfInBounds_toArray, List.set_cons_zero, List.set_cons_succ, List.getD_cons_zero, List.getD_cons_succ, Is] at hK ⊢
                rw [h16, h19] at hK ⊢
                refine ite_yes (by rfl) ?_
                go_simp
                exact hK _ _ _ rfl (Grew.refl _) rfl
              · intro y w2 hG hD K hK
                simp only [depsH, List.getD_cons_zero, List.getD_cons_succ, Is, and_true] at hD
                have h20 := hD
                clear hD
                simp only [fillL, Act.put, List.setIfInBounds_toArray, List.set_cons_zero, List.set_cons_succ, List.getD_cons_zero, List.getD_cons_succ, Is] at hK ⊢
                rw [h20] at hK ⊢
                refine ite_yes (by rfl) ?_
                go_simp
                exact hK _ _ _ rfl (Grew.refl _) rfl
              · intro y w2 hG hD K hK
                simp only [depsH, List.getD_cons_zero, List.getD_cons_succ, Is, and_true] at hD
                have h21 := hD
                clear hD
                simp only [fillL, Act.put, List.setIfInBounds_toArray, List.set_cons_zero, List.set_cons_succ, List.getD_cons_zero, List.getD_cons_succ, Is] at hK ⊢
                rw [h21] at hK ⊢
                refine ite_yes (by rfl) ?_
                go_simp
                exact hK _ _ _ rfl (Grew.refl _) rfl
              · intro y w2 hG hD K hK
                simp only [depsH, List.getD_cons_zero, List.getD_cons_succ, Is, and_true] at hD
                have h21 := hD
                clear hD
                simp only [fillL, Act.put, List.setIfInBounds_toArray, List.set_cons_zero, List.set_cons_succ, List.getD_cons_zero, List.getD_cons_succ, Is] at hK ⊢
                rw [h21] at hK ⊢
                refine ite_yes (by rfl) ?_
                go_simp
                exact hK _ _ _ rfl (Grew.refl _) rfl
              · intro y w2 hG hD K hK
                simp only [depsH, List.getD_cons_zero, List.getD_cons_succ, Is, and_true] at hD
                have h21 := hD.1
                have h22 := hD.2.1
                have h23 := hD.2.2
                clear hD
                simp only [fillL, Act.put, List.setIfInBounds_toArray, List.set_cons_zero, List.set_cons_succ, List.getD_cons_zero, List.getD_cons_succ, Is] at hK ⊢
                rw [h21, h22, h23] at hK ⊢
                refine ite_yes (by rfl) ?_
                go_simp
                exact hK _ _ _ rfl (Grew.refl _) rfl
              · intro y w2 hG hD K hK
                simp only [depsH, List.getD_cons_zero, List.getD_cons_succ, Is, and_true] at hD
                have h21 := hD.1
                have h24 := hD.2
                clear hD
                have dce := hG.cell ce
                have dd0 := hG.cell d0
                have dd1 := hG.cell d1
                have dd2 := hG.cell d2
                simp only [fillL, Act.put, List.setIfInBounds_toArray, List.set_cons_zero, List.set_cons_succ, List.getD_cons_zero, List.getD_cons_succ, Is] at hK ⊢
                rw [h21, h24] at hK ⊢
                refine ite_yes (by rfl) ?_
                go_simp
                exact hK _ _ _ rfl (Grew.refl _) rfl
              · intro y w2 hG hD K hK
                simp only [depsH, List.getD_cons_zero, List.getD_cons_succ, Is, and_true] at hD
                have h21 := hD.1
                have h25 := hD.2
                clear hD
                simp only [fillL, Act.put, List.setIfInBounds_toArray, List.set_cons_zero, List.set_cons_succ, List.getD_cons_zero, List.getD_cons_succ, Is] at hK ⊢
                rw [h21, h25] at hK ⊢
                refine ite_yes (by rfl) ?_
                go_simp
                exact hK _ _ _ rfl (Grew.refl _) rfl
              · intro y w2 hG hD K hK
                simp only [depsH, List.getD_cons_zero, List.getD_cons_succ, Is, and_true] at hD
                have h21 := hD
                clear hD
                have dce := hG.cell ce
                have dd0 := hG.cell d0
                have dd1 := hG.cell d1
                have dd2 := hG.cell d2
                simp only [fillL, Act.put, List.setIfInBounds_toArray, List.set_cons_zero, List.set_cons_succ, List.getD_cons_zero, List.getD_cons_succ, Is] at hK ⊢
                rw [h21] at hK ⊢
                refine ite_yes (by rfl) ?_
                go_simp
                exact hK _ _ _ rfl (Grew.refl _) rfl
              · intro y w2 hG hD K hK
                simp only [depsH, List.getD_cons_zero, List.getD_cons_succ, Is, and_true] at hD
                have h21 := hD
                clear hD
                have dce := hG.cell ce
                have dd0 := hG.cell d0
                have dd1 := hG.cell d1
                have dd2 := hG.cell d2
                simp only [fillL, Act.put, List.setIfInBounds_toArray, List.set_cons_zero, List.set_cons_succ, List.getD_cons_zero, List.getD_cons_succ, Is] at hK ⊢
                rw [h21] at hK ⊢
                refine ite_yes (by rfl) ?_
                go_simp
                exact hK _ _ _ rfl (Grew.refl _) rfl
              · intro y w2 hG hD K hK
                simp only [depsH, List.getD_cons_zero, List.getD_cons_succ, Is, and_true] at hD
                have h21 := hD.1
                have h28 := hD.2
                clear hD
                simp only [fillL, Act.put, List.setIfInBounds_toArray, List.set_cons_zero, List.set_cons_succ, List.getD_cons_zero, List.getD_cons_succ, Is] at hK ⊢
                rw [h21, h28] at hK ⊢
                refine ite_yes (by rfl) ?_
                go_simp
                exact hK _ _ _ rfl ((Grew.refl _).alloc _) ⟨built_vals w2 [((q : Int) - 1, e, (k : Int))] _, full_ok _ _⟩
              · intro y w2 hG hD K hK
                simp only [depsH, List.getD_cons_zero, List.getD_cons_succ, Is, and_true] at hD
                have h21 := hD.1
                have h26 := hD.2.1
                have h27 := hD.2.2.1
                have h29 := hD.2.2.2
                clear hD
                simp only [fillL, Act.put, List.setIfInBounds_toArray, List.set_cons_zero, List.set_cons_succ, List.getD_cons_zero, List.getD_cons_succ, Is] at hK ⊢
                rw [h21, h26, h27] at hK ⊢
                refine ite_yes (by rfl) ?_
                go_simp
                refine (fitAlls_any e 1 (q - 1) e k [((q : Int) - 1, e, (k : Int))] _ _ ⟨k0, k1⟩ h29.1 h29.2 (by simp) (ok_one3 _ _ _ k0 k1)).mono ?_
                rintro y3 w3 ⟨rfl, hg⟩
                exact hK _ _ _ rfl hg rfl
              · intro y w2 hG hD K hK
                simp only [depsH, List.getD_cons_zero, List.getD_cons_succ, Is, and_true] at hD
                have h21 := hD.1
                have h30 := hD.2
                clear hD
                simp only [fillL, Act.put, List.setIfInBounds_toArray, List.set_cons_zero, List.set_cons_succ, List.getD_cons_zero, List.getD_cons_succ, Is] at hK ⊢
                rw [h21, h30] at hK ⊢
                refine ite_yes (by rfl) ?_
                go_simp
                exact hK _ _ _ rfl (Grew.refl _) rfl
              · intro y w2 hG hD K hK
                simp only [depsH, List.getD_cons_zero, List.getD_cons_succ, Is, and_true] at hD
                have h21 := hD.1
                have h31 := hD.2
                clear hD
                simp only [fillL, Act.put, List.setIfInBounds_toArray, List.set_cons_zero, List.set_cons_succ, List.getD_cons_zero, List.getD_cons_succ, Is] at hK ⊢
                rw [h21, h31] at hK ⊢
                refine ite_yes (by rfl) ?_
                go_simp
                exact hK _ _ _ rfl (Grew.refl _) rfl
              · intro y w2 hG hD K hK
                simp only [depsH, List.getD_cons_zero, List.getD_cons_succ, Is, and_true] at hD
                have h32 := hD
                clear hD
                simp only [fillL, Act.put, List.setIfInBounds_toArray, List.set_cons_zero, List.set_cons_succ, List.getD_cons_zero, List.getD_cons_succ, Is] at hK ⊢
                rw [h32] at hK ⊢
                refine ite_yes (by rfl) ?_
                go_simp
                exact hK _ _ _ rfl (Grew.refl _) rfl
              · intro y w2 hG hD K hK
                simp only [depsH, List.getD_cons_zero, List.getD_cons_succ, Is, and_true] at hD
                have h33 := hD
                clear hD
                simp only [fillL, Act.put, List.setIfInBounds_toArray, List.set_cons_zero, List.set_cons_succ, List.getD_cons_zero, List.getD_cons_succ, Is] at hK ⊢
                rw [h33] at hK ⊢
                refine ite_yes (by rfl) ?_
                go_simp
                exact hK _ _ _ rfl (Grew.refl _) rfl
              · intro y w2 hG hD K hK
                simp only [depsH, List.getD_cons_zero, List.getD_cons_succ, Is, and_true] at hD
                have h33 := hD
                clear hD
                simp only [fillL, Act.put, List.setIfInBounds_toArray, List.set_cons_zero, List.set_cons_succ, List.getD_cons_zero, List.getD_cons_succ, Is] at hK ⊢
                rw [h33] at hK ⊢
                refine ite_yes (by rfl) ?_
                go_simp
                exact hK _ _ _ rfl (Grew.refl _) rfl
              · intro y w2 hG hD K hK
                simp only [depsH, List.getD_cons_zero, List.getD_cons_succ, Is, and_true] at hD
                have h33 := hD.1
                have h34 := hD.2.1
                have h35 := hD.2.2
                clear hD
                simp only [fillL, Act.put, List.setIfInBounds_toArray, List.set_cons_zero, List.set_cons_succ, List.getD_cons_zero, List.getD_cons_succ, Is] at hK ⊢
                rw [h33, h34, h35] at hK ⊢
                refine ite_yes (by rfl) ?_
                go_simp
                exact hK _ _ _ rfl (Grew.refl _) rfl
              · intro y w2 hG hD K hK
                simp only [depsH, List.getD_cons_zero, List.getD_cons_succ, Is, and_true] at hD
                have h33 := hD.1
                have h36 := hD.2
                clear hD
                have dce := hG.cell ce
                have dd0 := hG.cell d0
                have dd1 := hG.cell d1
                have dd2 := hG.cell d2
                simp only [fillL, Act.put, List.setIfInBounds_toArray, List.set_cons_zero, List.set_cons_succ, List.getD_cons_zero, List.getD_cons_succ, Is] at hK ⊢
                rw [h33, h36] at hK ⊢
                refine ite_yes (by rfl) ?_
                go_simp
                exact hK _ _ _ rfl (Grew.refl _) rfl
              · intro y w2 hG hD K hK
                simp only [depsH, List.getD_cons_zero, List.getD_cons_succ, Is, and_true] at hD
                have h33 := hD.1
                have h37 := hD.2
                clear hD
                simp only [fillL, Act.put, List.setIfInBounds_toArray, List.set_cons_zero, List.set_cons_succ, List.getD_cons_zero, List.getD_cons_succ, Is] at hK ⊢
                rw [h33, h37] at hK ⊢
                refine ite_yes (by rfl) ?_
                go_simp
                exact hK _ _ _ rfl (Grew.refl _) rfl
              · intro y w2 hG hD K hK
                simp only [depsH, List.getD_cons_zero, List.getD_cons_succ, Is, and_true] at hD
                have h33 := hD
                clear hD
                have dce := hG.cell ce
                have dd0 := hG.cell d0
                have dd1 := hG.cell d1
                have dd2 := hG.cell d2
                simp only [fillL, Act.put, List.setIfInBounds_toArray, List.set_cons_zero, List.set_cons_succ, List.getD_cons_zero, List.getD_cons_succ, Is] at hK ⊢
                rw [h33] at hK ⊢
                refine ite_yes (by rfl) ?_
                go_simp
                exact hK _ _ _ rfl (Grew.refl _) rfl
              · intro y w2 hG hD K hK
                simp only [depsH, List.getD_cons_zero, List.getD_cons_succ, Is, and_true] at hD
                have h33 := hD
                clear hD
                have dce := hG.cell ce
                have dd0 := hG.cell d0
                have dd1 := hG.cell d1
                have dd2 := hG.cell d2
                simp only [fillL, Act.put, List.setIfInBounds_toArray, List.set_cons_zero, List.set_cons_succ, List.getD_cons_zero, List.getD_cons_succ, Is] at hK ⊢
                rw [h33] at hK ⊢
                refine ite_yes (by rfl) ?_
                go_simp
                exact hK _ _ _ rfl (Grew.refl _) rfl
              · intro y w2 hG hD K hK
                simp only [depsH, List.getD_cons_zero, List.getD_cons_succ, Is, and_true] at hD
                have h33 := hD.1
                have h40 := hD.2
                clear hD
                simp only [fillL, Act.put, List.setIfInBounds_toArray, List.set_cons_zero, List.set_cons_succ, List.getD_cons_zero, List.getD_cons_succ, Is] at hK ⊢
                rw [h33, h40] at hK ⊢
                refine ite_yes (by rfl) ?_
                go_simp
                exact hK _ _ _ rfl ((Grew.refl _).alloc _) ⟨built_vals w2 [((q : Int) - 1, e, (k : Int))] _, full_ok _ _⟩
              · intro y w2 hG hD K hK
                simp only [depsH, List.getD_cons_zero, List.getD_cons_succ, Is, and_true] at hD
                have h33 := hD.1
                have h38 := hD.2.1
                have h39 := hD.2.2.1
                have h41 := hD.2.2.2
                clear hD
                simp only [fillL, Act.put, List.setIfInBounds_toArray, List.set_cons_zero, List.set_cons_succ, List.getD_cons_zero, List.getD_cons_succ, Is] at hK ⊢
                rw [h33, h38, h39] at hK ⊢
                refine ite_yes (by rfl) ?_
                go_simp
                refine (fitAlls_any 9 e (q - 1) e k [((q : Int) - 1, e, (k : Int))] _ _ ⟨k0, k1⟩ h41.1 h41.2 (by simp) (ok_one3 _ _ _ k0 k1)).mono ?_
                rintro y3 w3 ⟨rfl, hg⟩
                exact hK _ _ _ rfl hg rfl
              · intro y w2 hG hD K hK
                simp only [depsH, List.getD_cons_zero, List.getD_cons_succ, Is, and_true] at hD
                have h33 := hD.1
                have h42 := hD.2
                clear hD
                simp only [fillL, Act.put, List.setIfInBounds_toArray, List.set_cons_zero, List.set_cons_succ, List.getD_cons_zero, List.getD_cons_succ, Is] at hK ⊢
                rw [h33, h42] at hK ⊢
                refine ite_yes (by rfl) ?_
                go_simp
                exact hK _ _ _ rfl (Grew.refl _) rfl
              · intro y w2 hG hD K hK
                simp only [depsH, List.getD_cons_zero, List.getD_cons_succ, Is, and_true] at hD
                have h33 := hD.1
                have h43 := hD.2
                clear hD
                simp only [fillL, Act.put, List.setIfInBounds_toArray, List.set_cons_zero, List.set_cons_succ, List.getD_cons_zero, List.getD_cons_succ, Is] at hK ⊢
                rw [h33, h43] at hK ⊢
                refine ite_yes (by rfl) ?_
                go_simp
                exact hK _ _ _ rfl (Grew.refl _) rfl
              · intro y w2 hG hD K hK
                simp only [depsH, List.getD_cons_zero, List.getD_cons_succ, Is, and_true] at hD
                have h44 := hD
                clear hD
                simp only [fillL, Act.put, List.setIfInBounds_toArray, List.set_cons_zero, List.set_cons_succ, List.getD_cons_zero, List.getD_cons_succ, Is] at hK ⊢
                rw [h44] at hK ⊢
                refine ite_yes (by rfl) ?_
                go_simp
                exact hK _ _ _ rfl (Grew.refl _) rfl
              · intro y w2 hG hD K hK
                simp only [depsH, List.getD_cons_zero, List.getD_cons_succ, Is, and_true] at hD
                have h45 := hD
                clear hD
                simp only [fillL, Act.put, List.setIfInBounds_toArray, List.set_cons_zero, List.set_cons_succ, List.getD_cons_zero, List.getD_cons_succ, Is] at hK ⊢
                rw [h45] at hK ⊢
                refine ite_yes (by rfl) ?_
                go_simp
                exact hK _ _ _ rfl (Grew.refl _) rfl
              · intro y w2 hG hD K hK
                simp only [depsH, List.getD_cons_zero, List.getD_cons_succ, Is, and_true] at hD
                have h45 := hD
                clear hD
                have dce := hG.cell ce
                have dd0 := hG.cell d0
                have dd1 := hG.cell d1
                have dd2 := hG.cell d2
                simp only [fillL, Act.put, List.setIfInBounds_toArray, List.set_cons_zero, List.set_cons_succ, List.getD_cons_zero, List.getD_cons_succ, Is] at hK ⊢
                rw [h45] at hK ⊢
                refine ite_yes (by rfl) ?_
                go_simp
                exact hK _ _ _ rfl (Grew.refl _) rfl
              · intro y w2 hG hD K hK
                simp only [depsH, List.getD_cons_zero, List.getD_cons_succ, Is, and_true] at hD
                have h45 := hD.1
                have h46 := hD.2.1
                have h47 := hD.2.2
                clear hD
                simp only [fillL, Act.put, List.setIfInBounds_toArray, List.set_cons_zero, List.set_cons_succ, List.getD_cons_zero, List.getD_cons_succ, Is] at hK ⊢
                rw [h45, h46, h47] at hK ⊢
                refine ite_yes (by rfl) ?_
                go_simp
                refine (fitAlls_any 9 3 (q - 1) e k [] _ _ ⟨k0, k1⟩ ⟨none, 0, rfl, by simp⟩ nil_ok (by simp) (by simp)).mono ?_
                rintro y3 w3 ⟨rfl, hg⟩
                exact hK _ _ _ rfl hg rfl
              · intro y w2 hG hD K hK
                simp only [depsH, List.getD_cons_zero, List.getD_cons_succ, Is, and_true] at hD
                have h45 := hD.1
                have h48 := hD.2
                clear hD
                simp only [fillL, Act.put, List.setIfInBounds_toArray, List.set_cons_zero, List.set_cons_succ, List.getD_cons_zero, List.getD_cons_succ, Is] at hK ⊢
                rw [h45, h48] at hK ⊢
                refine ite_yes (by rfl) ?_
                go_simp
                exact hK _ _ _ rfl (Grew.refl _) rfl
              · intro y w2 hG hD K hK
                simp only [depsH, List.getD_cons_zero, List.getD_cons_succ, Is, and_true] at hD
                have h45 := hD.1
                have h49 := hD.2
                clear hD
                simp only [fillL, Act.put, List.setIfInBounds_toArray, List.set_cons_zero, List.set_cons_succ, List.getD_cons_zero, List.getD_cons_succ, Is] at hK ⊢
                rw [h45, h49] at hK ⊢
                refine ite_yes (by rfl) ?_
                go_simp
                exact hK _ _ _ rfl (Grew.refl _) rfl
              · intro y w2 hG hF
                simp only [factsH, Is, and_true, Nat.reduceAdd] at hF
                have h0 := hF.1
                have h1 := hF.2.1
                have h2 := hF.2.2.1
                have h3 := hF.2.2.2.1
                have h4 := hF.2.2.2.2.1
                have h5 := hF.2.2.2.2.2.1
                have h6 := hF.2.2.2.2.2.2.1
                have h7 := hF.2.2.2.2.2.2.2.1
                have h8 := hF.2.2.2.2.2.2.2.2.1
                have h9 := hF.2.2.2.2.2.2.2.2.2.1
                have h10 := hF.2.2.2.2.2.2.2.2.2.2.1
                have h11 := hF.2.2.2.2.2.2.2.2.2.2.2.1
                have h12 := hF.2.2.2.2.2.2.2.2.2.2.2.2.1
                have h13 := hF.2.2.2.2.2.2.2.2.2.2.2.2.2.1
                have h14 := hF.2.2.2.2.2.2.2.2.2.2.2.2.2.2.1
                have h15 := hF.2.2.2.2.2.2.2.2.2.2.2.2.2.2.2.1
                have h16 := hF.2.2.2.2.2.2.2.2.2.2.2.2.2.2.2.2.1
                have h17 := hF.2.2.2.2.2.2.2.2.2.2.2.2.2.2.2.2.2.1
                have h18 := hF.2.2.2.2.2.2.2.2.2.2.2.2.2.2.2.2.2.2.1
                have h19 := hF.2.2.2.2.2.2.2.2.2.2.2.2.2.2.2.2.2.2.2.1
                have h20 := hF.2.2.2.2.2.2.2.2.2.2.2.2.2.2.2.2.2.2.2.2.1
                have h21 := hF.2.2.2.2.2.2.2.2.2.2.2.2.2.2.2.2.2.2.2.2.2.1
                have h22 := hF.2.2.2.2.2.2.2.2.2.2.2.2.2.2.2.2.2.2.2.2.2.2.1
                have h23 := hF.2.2.2.2.2.2.2.2.2.2.2.2.2.2.2.2.2.2.2.2.2.2.2.1
                have h24 := hF.2.2.2.2.2.2.2.2.2.2.2.2.2.2.2.2.2.2.2.2.2.2.2.2.1
                have h25 := hF.2.2.2.2.2.2.2.2.2.2.2.2.2.2.2.2.2.2.2.2.2.2.2.2.2.1
                have h26 := hF.2.2.2.2.2.2.2.2.2.2.2.2.2.2.2.2.2.2.2.2.2.2.2.2.2.2.1
                have h27 := hF.2.2.2.2.2.2.2.2.2.2.2.2.2.2.2.2.2.2.2.2.2.2.2.2.2.2.2.1
                have h28 := hF.2.2.2.2.2.2.2.2.2.2.2.2.2.2.2.2.2.2.2.2.2.2.2.2.2.2.2.2.1
                have h29 := hF.2.2.2.2.2.2.2.2.2.2.2.2.2.2.2.2.2.2.2.2.2.2.2.2.2.2.2.2.2.1
                have h30 := hF.2.2.2.2.2.2.2.2.2.2.2.2.2.2.2.2.2.2.2.2.2.2.2.2.2.2.2.2.2.2.1
                have h31 := hF.2.2.2.2.2.2.2.2.2.2.2.2.2.2.2.2.2.2.2.2.2.2.2.2.2.2.2.2.2.2.2.1
                have h32 := hF.2.2.2.2.2.2.2.2.2.2.2.2.2.2.2.2.2.2.2.2.2.2.2.2.2.2.2.2.2.2.2.2.1
                have h33 := hF.2.2.2.2.2.2.2.2.2.2.2.2.2.2.2.2.2.2.2.2.2.2.2.2.2.2.2.2.2.2.2.2.2.1
                have h34 := hF.2.2.2.2.2.2.2.2.2.2.2.2.2.2.2.2.2.2.2.2.2.2.2.2.2.2.2.2.2.2.2.2.2.2.1
                have h35 := hF.2.2.2.2.2.2.2.2.2.2.2.2.2.2.2.2.2.2.2.2.2.2.2.2.2.2.2.2.2.2.2.2.2.2.2.1
                have h36 := hF.2.2.2.2.2.2.2.2.2.2.2.2.2.2.2.2.2.2.2.2.2.2.2.2.2.2.2.2.2.2.2.2.2.2.2.2.1
                have h37 := hF.2.2.2.2.2.2.2.2.2.2.2.2.2.2.2.2.2.2.2.2.2.2.2.2.2.2.2.2.2.2.2.2.2.2.2.2.2.1
                have h38 := hF.2.2.2.2.2.2.2.2.2.2.2.2.2.2.2.2.2.2.2.2.2.2.2.2.2.2.2.2.2.2.2.2.2.2.2.2.2.2.1
                have h39 := hF.2.2.2.2.2.2.2.2.2.2.2.2.2.2.2.2.2.2.2.2.2.2.2.2.2.2.2.2.2.2.2.2.2.2.2.2.2.2.2.1
                have h40 := hF.2.2.2.2.2.2.2.2.2.2.2.2.2.2.2.2.2.2.2.2.2.2.2.2.2.2.2.2.2.2.2.2.2.2.2.2.2.2.2.2.1
                have h41 := hF.2.2.2.2.2.2.2.2.2.2.2.2.2.2.2.2.2.2.2.2.2.2.2.2.2.2.2.2.2.2.2.2.2.2.2.2.2.2.2.2.2.1
                have h42 := hF.2.2.2.2.2.2.2.2.2.2.2.2.2.2.2.2.2.2.2.2.2.2.2.2.2.2.2.2.2.2.2.2.2.2.2.2.2.2.2.2.2.2.1
                have h43 := hF.2.2.2.2.2.2.2.2.2.2.2.2.2.2.2.2.2.2.2.2.2.2.2.2.2.2.2.2.2.2.2.2.2.2.2.2.2.2.2.2.2.2.2.1
                have h44 := hF.2.2.2.2.2.2.2.2.2.2.2.2.2.2.2.2.2.2.2.2.2.2.2.2.2.2.2.2.2.2.2.2.2.2.2.2.2.2.2.2.2.2.2.2.1
                have h45 := hF.2.2.2.2.2.2.2.2.2.2.2.2.2.2.2.2.2.2.2.2.2.2.2.2.2.2.2.2.2.2.2.2.2.2.2.2.2.2.2.2.2.2.2.2.2.1
                have h46 := hF.2.2.2.2.2.2.2.2.2.2.2.2.2.2.2.2.2.2.2.2.2.2.2.2.2.2.2.2.2.2.2.2.2.2.2.2.2.2.2.2.2.2.2.2.2.2.1
                have h47 := hF.2.2.2.2.2.2.2.2.2.2.2.2.2.2.2.2.2.2.2.2.2.2.2.2.2.2.2.2.2.2.2.2.2.2.2.2.2.2.2.2.2.2.2.2.2.2.2.1
                have h48 := hF.2.2.2.2.2.2.2.2.2.2.2.2.2.2.2.2.2.2.2.2.2.2.2.2.2.2.2.2.2.2.2.2.2.2.2.2.2.2.2.2.2.2.2.2.2.2.2.2.1
                have h49 := hF.2.2.2.2.2.2.2.2.2.2.2.2.2.2.2.2.2.2.2.2.2.2.2.2.2.2.2.2.2.2.2.2.2.2.2.2.2.2.2.2.2.2.2.2.2.2.2.2.2.1
                have h50 := hF.2.2.2.2.2.2.2.2.2.2.2.2.2.2.2.2.2.2.2.2.2.2.2.2.2.2.2.2.2.2.2.2.2.2.2.2.2.2.2.2.2.2.2.2.2.2.2.2.2.2
                clear hF
                simp only [fillL, Act.put, List.setIfInBounds_toArray, List.set_cons_zero, List.set_cons_succ, List.getD_cons_zero, List.getD_cons_succ, Is]
                rw [h0, h1, h2, h3, h4, h5, h6, h7, h8, h9, h10, h11, h12, h13, h14, h15, h16, h17, h18, h19, h20, h21, h22, h23, h24, h25, h26, h27, h28, h30, h31, h32, h33, h34, h35, h36, h37, h38, h39, h40, h42, h43, h44, h45, h46, h47, h48, h49, h50]
                clear h0 h1 h2 h3 h4 h5 h6 h7 h8 h9 h10 h11 h12 h13 h14 h15 h16 h17 h18 h19 h20 h21 h22 h23 h24 h25 h26 h27 h28 h30 h31 h32 h33 h34 h35 h36 h37 h38 h39 h40 h42 h43 h44 h45 h46 h47 h48 h49 h50
                go_wp2
                go_roundw
                case rel => first | exact ⟨(hg5.trans ((Grew.refl _).alloc _)).trans hG, q + 1, by omega, by go_num⟩ | ((repeat apply Exists.intro); exact ⟨⟨(hg5.trans ((Grew.refl _).alloc _)).trans hG, q + 1, by omega, by go_num⟩, rfl⟩)
                case measure => simp [intOf]; omega
            · go_wp2_with fail
              go_roundw
              case rel => exact ⟨hg4.trans hg5, k + 1, by omega, by go_num⟩
              case measure => simp [intOf]; omega
        · go_wp2_with fail
          refine (works16_any _).mono ?_
          rintro y3 w4 ⟨rfl, hh1⟩
          go_wp2_with fail
          refine (text_any _ _).mono ?_
          rintro y3 w5 ⟨rfl, hh2⟩
          go_wp2_with fail
          refine (fitOnes_any _ _ _ _ _ _ (by decide) (by decide)).mono ?_
          rintro y3 w6 ⟨rfl, hh3⟩
          go_wp2_with fail
          refine (text_any _ _).mono ?_
          rintro y3 w7 ⟨rfl, hh4⟩
          go_wp2_with fail
          refine (fitOnes_any _ _ _ _ _ _ (by decide) (by decide)).mono ?_
          rintro y3 w8 ⟨rfl, hh5⟩
          go_wp2
          go_ret
          exact ⟨rfl, (g3.trans hg4).trans ((((hh1.trans hh2).trans hh3).trans hh4).trans hh5)⟩

theorem fitKnown_row {H : Type} (enc : TypeId × Value → H) (W : World) (base : Nat) :
    Calls Try.prog 10 #[] W fun e w' => e = .returned (.bool true) ∧ Below W.heap.size W w' := by
  exact (fitKnown_any W).mono fun e w' ⟨he, hg⟩ => ⟨he, hg.below⟩

theorem fitKnown_own : ownKnob Try.prog.godebug = none := by kernel_rfl
theorem fitKnown_laidOut : laidOutB Try.prog = true := by kernel_rfl

set_option maxRecDepth 100000 in
theorem fitKnown_lifted (os : Os) (started : os.Started) (H : Type) (enc : TypeId × Value → H) :
    ReturnsInHanded {} Try.checked os 10 .any (Rows.fitKnownSpec.pre6 enc Try.prog Try.f10 Rows.fitKnownRow.domain false) (Rows.fitKnownSpec.post enc Try.prog Try.f10 false true false false) := by
  refine returnsInHanded_of_change (C := Try.checked) fitKnown_own started (by kernel_rfl) Try.func10
    (ChangeSpec.witness6 (enc := enc) (C := Try.checked) false ⟨#[], #[], []⟩ 8 (by kernel_rfl) (by kernel_rfl) (by kernel_rfl) (by kernel_rfl)) ?_
  intro W base args ds gs before hval0 hW hcnd _
  have hval : ∀ (j : Nat) t v, Try.f10.params[j]? = some t → args[j]? = some v → Value.okWide Try.prog W .any base t v := hval0
  have hW' := hW
  obtain ⟨p, q, hA0, hV, rfl, hfz, hnd⟩ := hW
  have hA : DataW.TrodAll enc Try.prog W 0 (fun _ => true) true Try.f10.params.toList args.toList ds p := hA0
  rw [Try.params10] at hA hval
  obtain ⟨rfl, rfl, rfl⟩ := trodAll_none hA
  obtain ⟨rfl, rfl⟩ := trodVars_none hV
  have hw := fitKnown_row enc W base 
  clear hA0 hval0
  refine hw.mono fun e W' ⟨he, bel⟩ => ?_
  subst he
  exact ⟨_, rfl, _, _, _, [], [], [], hW', trodAll_mk1 (shut_bool Try.underlying4 _), trodAll_mk0, rfl, Below.frame bel _, fun h => by cases h⟩

/-- The statement. -/
theorem fitKnown_holds : Rows.FitKnownSaid :=
  OpenClaim.holds_of_wide 10 Try.f10 rfl rfl rfl rfl rfl rfl rfl ⟨rfl, rfl, rfl, rfl, rfl⟩ rfl rfl rfl rfl rfl (by kernel_rfl) Try.func10 (by kernel_rfl)
    (of_decide_eq_true (by kernel_rfl)) (by unfold Func.isWrapper; first | (rw [if_pos (by decide +kernel)]; kernel_rfl) | (rw [if_neg (by decide +kernel)]; exact ⟨rfl, rfl⟩))
    (fun os started H enc _ => fitKnown_lifted os started H enc)

end Go.Proofs.Ytkabfefphdgppaa
