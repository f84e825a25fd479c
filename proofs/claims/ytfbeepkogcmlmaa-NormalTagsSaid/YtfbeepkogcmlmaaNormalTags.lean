/-
  'NormalTags': other kinds and another order of map entries give equivalent trees. Conditions: none beyond the statement's own.
-/
import Derived.Test.YtfbeepkogcmlmaaRows
import Derived.Test.YtfbeepkogcmlmaaPH
import Derived.ProofKit
import Derived.OpenShut
import Derived.ShutString
import Derived.ChangeOld
import Derived.Below
import Derived.Lib.SmallJoins
import Derived.Deep.QuietTactic
import Derived.BigQuiet
import Derived.Deep.CutBlock
import Derived.Deep.DeepCutAuto
namespace Go.Proofs.Ytfbeepkogcmlmaa
open Go Go.ChangeShapes Go.WideShapes Go.ChangeAt Go.RowKit Go.Joins
open Go.ChangeMaps (open_string shut_string)
open Go.Deep
set_option linter.unusedVariables false
set_option linter.unusedSimpArgs false

theorem bring9_eq (i n : Int) (h : 0 < n) : (i.tmod n < 0 → i.tmod n + n = i % n) ∧ (¬ i.tmod n < 0 → i.tmod n = i % n) ∧ -n < i.tmod n ∧ i.tmod n < n := by
  have h1 := Int.emod_nonneg i (show n ≠ 0 by omega)
  have h2 := Int.emod_lt_of_pos i h
  rw [Int.tmod_eq_emod]
  by_cases hc : 0 ≤ i ∨ n ∣ i
  · rw [if_pos hc]
    refine ⟨fun h => ?_, fun _ => ?_, ?_, ?_⟩ <;> simp only [Int.ofNat_zero, Int.sub_zero] at * <;> omega
  · rw [if_neg hc]
    have h3 : (n.natAbs : Int) = n := by omega
    have h4 : i % n ≠ 0 := fun h => hc (.inr (Int.dvd_of_emod_eq_zero h))
    rw [h3]
    refine ⟨fun h => ?_, fun _ => ?_, ?_, ?_⟩ <;> omega
theorem bring9_any (i n : Int) (w : World) (hn : 0 < n) (hn2 : n ≤ 1048577) : Calls Try.prog 20 #[.int .i64 i, .int .i64 n] w fun r w' => r = .returned (.int .i64 (i % n)) ∧ w' = w := by
  obtain ⟨b1, b2, b3, b4⟩ := bring9_eq i n hn
  have B1 := Lib.hid b1
  have B2 := Lib.hid b2
  clear b1 b2
  go_enter Try.func20, Try.ntmps20
  go_wp2
  · go_ret
    refine ⟨ret_int ?_, rfl⟩
    exact B1.out (by assumption)
  · go_ret
    exact ⟨ret_int (B2.out (by assumption)), rfl⟩
theorem sorted_sum9 {w w' : World} {t : Tr} {r : Ending} (h : SortedOut w t r w') : Grew w w' ∧ ∃ (e k n u : Int) (s : ByteArray) (a4 : Option Addr) (n4 c4 : Nat) (a5 : Option Addr) (n5 c5 : Nat), r = .returned (.tuple #[.agg #[.int .i64 k, .int .i64 n, .int .u64 u, .string s, .slice a4 n4 c4, .slice a5 n5 c5], .int .i64 e]) ∧ e = checkE t ∧ (e = 0 → NodeAt w' (sortT t) (.agg #[.int .i64 k, .int .i64 n, .int .u64 u, .string s, .slice a4 n4 c4, .slice a5 n5 c5])) := by
  obtain ⟨hg, ⟨h0, rfl⟩ | ⟨h0, v, S, rfl, ho, hf⟩⟩ := h
  · exact ⟨hg, checkE t, 0, 0, 0, ⟨#[]⟩, none, 0, 0, none, 0, 0, rfl, rfl, fun h => absurd h h0⟩
  · obtain ⟨k, n, u, s, a4, n4, c4, a5, n5, c5, rfl⟩ := ho.node6
    exact ⟨hg, 0, k, n, u, s, a4, n4, c4, a5, n5, c5, rfl, h0.symm, fun _ => ho.node⟩
theorem bool_of9 {b b' : Bool} {p : Prop} (h : b = true ↔ p) (h' : b' = true ↔ p) : b = b' := by
  cases b <;> cases b' <;> simp_all
theorem bool_iff9 {b : Bool} {p : Prop} (h : b = true ↔ p) (hp : p) : b = true := h.2 hp
theorem bool_not9 {b : Bool} {p : Prop} (h : b = true ↔ p) (hp : ¬ p) : b = false := by cases b; rfl; exact absurd (h.1 rfl) hp
theorem node_n {w : World} : ∀ (m : Nat) (t : Tr) (v : Value) (b : Nat), t.size ≤ m → NodeAt w t v → ∀ p ∈ preT b t, p.2.n ≤ 9223372036854775807 := by
  intro m
  induction m with
  | zero => intro t v b h; have := t.size_pos; omega
  | succ m ih =>
    intro t v b h hn p hp
    obtain ⟨k, n, u, s, keys, l⟩ := t
    obtain ⟨hb, kv, lv, vs, _, _, _, hk⟩ := hn
    simp only [preT, List.mem_cons] at hp
    rcases hp with rfl | hp
    · exact hb.2.1.2
    · obtain ⟨x, hx, hpx⟩ := mem_preL'.1 hp
      obtain ⟨i, hi⟩ := List.getElem?_of_mem hx
      obtain ⟨xv, _, hnx⟩ := hk.get hi
      have hsz := size_mem hx
      simp only [Tr.size] at h
      exact ih x xv (b + 1) (by omega) hnx p hpx
/-- The law, plain. -/
structure TagsP (c : Tr) : Prop where
  few : Few c
  size : c.size ≤ 120
  ssize : (sortT c).size ≤ 120
  sort : alikeP c (sortT c)
  ret : ∀ j, alikeP c (retT c j) ∧ (retT c j).size ≤ 120
theorem tags_of (c : Tr) (hz : c.size ≤ 120) (hc : checkE c = 0) (hi : ∀ p ∈ preT 0 c, p.2.n ≤ 9223372036854775807) : TagsP c := by
  have hv := check_val.1 hc
  have hs := val_sort c.size c 0 (Nat.le_refl _) hv.2
  have hr := srt_sort c.size c 0 (Nat.le_refl _) hv.2
  have he := sort_srt (sortT c).size (sortT c) 0 (Nat.le_refl _) hs.1 hr
  refine ⟨few_val _ _ 0 (Nat.le_refl _) hv.1 hv.2, hz, by rw [hs.2]; exact hz, ⟨hc, check_val.2 ⟨by rw [hs.2]; exact hv.1, hs.1⟩, ?_⟩, fun j => ?_⟩
  · unfold norT; rw [he]
  · have h := ret_val c.size c 0 j (Nat.le_refl _) hv.2 hi
    exact ⟨⟨hc, check_val.2 ⟨by rw [h.2.1]; exact hv.1, h.1⟩, h.2.2.symm⟩, by rw [h.2.1]; exact hz⟩
set_option maxRecDepth 100000 in
set_option maxHeartbeats 8000000 in
theorem normalTags_row {H : Type} (enc : TypeId × Value → H) (W : World) (base : Nat) (v0 : Value) (d0 : DataW H) (p0 : List MemPlace) (o0 : Value.okWide Try.prog W .any base 26 v0) (k0 : DataW.Trod enc Try.prog W 0 (fun _ => true) true 26 v0 d0 p0) (v1 : Value) (d1 : DataW H) (p1 : List MemPlace) (o1 : Value.okWide Try.prog W .any base 3 v1) (k1 : DataW.Trod enc Try.prog W 0 (fun _ => true) true 3 v1 d1 p1) :
    Calls Try.prog 5 #[v0, v1] W fun e w' => e = .returned (.bool true) ∧ Below W.heap.size W w' := by
  obtain ⟨t0, hn0⟩ := open_node o0 k0
  obtain ⟨by0, rfl, _, _, _⟩ := open_int Try.underlying3 o1 k1
  have HA := Lib.hid hn0
  obtain ⟨tak, tan, tau, tas, taa4, tan4, tac4, taa5, tan5, tac5, rfl⟩ := hn0.node6
  clear o0 k0 hn0 o1 k1
  go_enter Try.func5, Try.ntmps5
  go_wp2_with fail
  have hg0 := (Grew.refl W).alloc (.cells #[.int .i64 tak, .int .i64 tan, .int .u64 tau, .string tas, .slice taa4 tan4 tac4, .slice taa5 tan5 tac5] 26)
  generalize (W.alloc (.cells #[.int .i64 tak, .int .i64 tan, .int .u64 tau, .string tas, .slice taa4 tan4 tac4, .slice taa5 tan5 tac5] 26)) = w0 at *
  refine (few09_any t0 _ w0 (HA.out.grew hg0)).mono ?_
  rintro r w1 ⟨vc, rfl, hnc, hg1⟩
  have hsz := cutT_size t0
  generalize cutT t0 = c at *
  have HC := Lib.hid hnc
  obtain ⟨fk, fn, fu, fs, fa4, fn4, fc4, fa5, fn5, fc5, rfl⟩ := hnc.node6
  have HG1 := Lib.hid (hg0.trans hg1)
  have HSZ := Lib.hid hsz
  clear hnc hg0 hg1 HA hsz
  go_upto_region 2 with fail
  obtain ⟨pc, hpc⟩ : ∃ N, w1.heap.size = N := ⟨_, rfl⟩
  have hr2 := heap_alloc_new w1 (.cells #[.int .i64 fk, .int .i64 fn, .int .u64 fu, .string fs, .slice fa4 fn4 fc4, .slice fa5 fn5 fc5] 26)
  have hg2 := (Grew.refl w1).alloc (.cells #[.int .i64 fk, .int .i64 fn, .int .u64 fu, .string fs, .slice fa4 fn4 fc4, .slice fa5 fn5 fc5] 26)
  generalize (w1.alloc (.cells #[.int .i64 fk, .int .i64 fn, .int .u64 fu, .string fs, .slice fa4 fn4 fc4, .slice fa5 fn5 fc5] 26)) = w2 at *
  rw [hpc] at hr2 ⊢
  have HR2 := Lib.hid hr2
  replace HC := Lib.hid (HC.out.grew hg2)
  have HG2 := Lib.hid (HG1.out.trans hg2)
  clear hr2 hpc hg2 HG1
  have c0 := row_cellT HR2.out 0 _ rfl
  have c1 := row_cellT HR2.out 1 _ rfl
  have c2 := row_cellT HR2.out 2 _ rfl
  have c3 := row_cellT HR2.out 3 _ rfl
  have c4 := row_cellT HR2.out 4 _ rfl
  have c5 := row_cellT HR2.out 5 _ rfl
  go_wp2_with fail
  refine (check_any c _ w2 HC.out (by have := HSZ.out; omega)).mono ?_
  rintro r w3 ⟨rfl, hg3⟩
  replace HC := Lib.hid (HC.out.grew hg3)
  have HG3 := Lib.hid (HG2.out.trans hg3)
  have HR3 := Lib.hid (hg3.heap HR2.out)
  clear hg3 HG2 HR2 c0 c1 c2 c3 c4 c5
  obtain ⟨e, he⟩ : ∃ e, checkE c = e := ⟨_, rfl⟩
  have HE := Lib.hid he
  rw [he]
  clear he
  by_cases h0 : e = 0
  rotate_left
  · have hb : (e != 0) = true := by simpa using h0
    clear h0
    go_wp2_with fail
    refine (works09_any _).mono ?_
    rintro r w4 ⟨rfl, hg4⟩
    have HG4 := Lib.hid (HG3.out.trans hg4)
    clear hg4
    go_wp2_with fail
    go_ret
    exact ⟨rfl, HG4.out⟩
  subst h0
  have HP := Lib.hid (tags_of c HSZ.out HE.out (node_n c.size c _ 0 (Nat.le_refl _) HC.out))
  have c0 := row_cellT HR3.out 0 _ rfl
  have c1 := row_cellT HR3.out 1 _ rfl
  have c2 := row_cellT HR3.out 2 _ rfl
  have c3 := row_cellT HR3.out 3 _ rfl
  have c4 := row_cellT HR3.out 4 _ rfl
  have c5 := row_cellT HR3.out 5 _ rfl
  go_wp2_with fail
  refine (sorted_any c _ w3 HC.out (by have := HSZ.out; omega)).mono ?_
  intro r w4 hh
  obtain ⟨hg4, e1, xk, xn, xu, xs, xa4, xn4, xc4, xa5, xn5, xc5, rfl, he1, hx⟩ := sorted_sum9 hh
  obtain rfl : e1 = 0 := he1.trans HE.out
  have HX := Lib.hid (hx rfl)
  replace HC := Lib.hid (HC.out.grew hg4)
  have HR4 := Lib.hid (hg4.heap HR3.out)
  have HG4 := Lib.hid (HG3.out.trans hg4)
  clear hh he1 hx hg4 HG3 HR3 c0 c1 c2 c3 c4 c5
  go_upto_region 5 with fail
  obtain ⟨px, hpx⟩ : ∃ N, w4.heap.size = N := ⟨_, rfl⟩
  have hr5 := heap_alloc_new w4 (.cells #[.int .i64 xk, .int .i64 xn, .int .u64 xu, .string xs, .slice xa4 xn4 xc4, .slice xa5 xn5 xc5] 26)
  have hg5 := (Grew.refl w4).alloc (.cells #[.int .i64 xk, .int .i64 xn, .int .u64 xu, .string xs, .slice xa4 xn4 xc4, .slice xa5 xn5 xc5] 26)
  generalize (w4.alloc (.cells #[.int .i64 xk, .int .i64 xn, .int .u64 xu, .string xs, .slice xa4 xn4 xc4, .slice xa5 xn5 xc5] 26)) = w5 at *
  rw [hpx] at hr5 ⊢
  replace HX := Lib.hid (HX.out.grew hg5)
  replace HC := Lib.hid (HC.out.grew hg5)
  have HR5 := Lib.hid (hg5.heap HR4.out)
  have HG5 := Lib.hid (HG4.out.trans hg5)
  have c0 := row_cellT HR5.out 0 _ rfl
  have c1 := row_cellT HR5.out 1 _ rfl
  have c2 := row_cellT HR5.out 2 _ rfl
  have c3 := row_cellT HR5.out 3 _ rfl
  have c4 := row_cellT HR5.out 4 _ rfl
  have c5 := row_cellT HR5.out 5 _ rfl
  have d0 := row_cellT hr5 0 _ rfl
  have d1 := row_cellT hr5 1 _ rfl
  have d2 := row_cellT hr5 2 _ rfl
  have d3 := row_cellT hr5 3 _ rfl
  have d4 := row_cellT hr5 4 _ rfl
  have d5 := row_cellT hr5 5 _ rfl
  clear hr5 hpx hg5 HR4 HG4 HR5
  refine wp_region_tables Grew [[], [0], [0, 1], [0, 1, 2], [0, 1, 2], [0, 1, 2, 3, 4], [0, 1, 2, 3, 4, 5], [0, 1, 2, 3, 4, 5, 6], [0, 1, 2, 3, 4, 5, 6, 7], [0, 1, 2, 3, 4, 5, 6, 7], [0, 1, 2, 3, 4, 5, 6, 7], [0, 1, 2, 3, 4, 5, 6, 7, 10], [0, 1, 2, 3, 4, 5, 6, 7, 9, 10, 11], [0, 1, 2, 3, 4, 5, 6, 7, 8, 9, 10, 11, 12], [0, 1, 2, 3, 4, 5, 6, 7, 8, 9, 10, 11, 12, 13], [0, 1, 2, 3, 4, 5, 6, 7, 8, 9, 10, 11, 12, 13, 14], [0, 1, 2, 3, 4, 5, 6, 7, 8, 9, 10, 11, 12, 13, 14, 15], [0, 1, 2, 3, 4, 5, 6, 7, 8, 9, 10, 11, 12, 13, 14, 15, 16], [0, 1, 2, 3, 4, 5, 6, 7, 8, 9, 10, 11, 12, 13, 14, 15, 16, 17]] [[], [(19, 0)], [(19, 0), (20, 1)], [(19, 0), (20, 1), (21, 2), (23, 4)], [(19, 0), (20, 1), (21, 2), (22, 3)], [(19, 0), (20, 1), (21, 2), (22, 3), (23, 4)], [(19, 0), (20, 1), (21, 2), (22, 3), (23, 4), (24, 5)], [(19, 0), (20, 1), (21, 2), (22, 3), (23, 4), (24, 5), (25, 6)], [(19, 0), (20, 1), (21, 2), (22, 3), (23, 4), (24, 5), (25, 6), (26, 7), (28, 9), (29, 10), (30, 11), (31, 12)], [(19, 0), (20, 1), (21, 2), (22, 3), (23, 4), (24, 5), (25, 6), (26, 7), (27, 8), (29, 10), (30, 11)], [(19, 0), (20, 1), (21, 2), (22, 3), (23, 4), (24, 5), (25, 6), (26, 7), (27, 8), (28, 9)], [(19, 0), (20, 1), (21, 2), (22, 3), (23, 4), (24, 5), (25, 6), (26, 7), (27, 8), (28, 9), (29, 10)], [(19, 0), (20, 1), (21, 2), (22, 3), (23, 4), (24, 5), (25, 6), (26, 7), (27, 8), (28, 9), (29, 10), (30, 11)], [(19, 0), (20, 1), (21, 2), (22, 3), (23, 4), (24, 5), (25, 6), (26, 7), (27, 8), (28, 9), (29, 10), (30, 11), (31, 12)], [(19, 0), (20, 1), (21, 2), (22, 3), (23, 4), (24, 5), (25, 6), (26, 7), (27, 8), (28, 9), (29, 10), (30, 11), (31, 12), (32, 13)], [(19, 0), (20, 1), (21, 2), (22, 3), (23, 4), (24, 5), (25, 6), (26, 7), (27, 8), (28, 9), (29, 10), (30, 11), (31, 12), (32, 13), (33, 14)], [(19, 0), (20, 1), (21, 2), (22, 3), (23, 4), (24, 5), (25, 6), (26, 7), (27, 8), (28, 9), (29, 10), (30, 11), (31, 12), (32, 13), (33, 14), (34, 15)], [(19, 0), (20, 1), (21, 2), (22, 3), (23, 4), (24, 5), (25, 6), (26, 7), (27, 8), (28, 9), (29, 10), (30, 11), (31, 12), (32, 13), (33, 14), (34, 15), (35, 16)], [(19, 0), (20, 1), (21, 2), (22, 3), (23, 4), (24, 5), (25, 6), (26, 7), (27, 8), (28, 9), (29, 10), (30, 11), (31, 12), (32, 13), (33, 14), (34, 15), (35, 16), (36, 17)]] [(19, 0), (20, 1), (21, 2), (22, 3), (23, 4), (24, 5), (25, 6), (26, 7), (27, 8), (28, 9), (29, 10), (30, 11), (31, 12), (32, 13), (33, 14), (34, 15), (35, 16), (36, 17), (4, 18)]
    [Is (.int .i64 0), Is (.bool true), Is (.bool true), Is (.agg #[.int .i64 fk, .int .i64 fn, .int .u64 fu, .string fs, .slice fa4 fn4 fc4, .slice fa5 fn5 fc5]), Is (.agg #[.int .i64 xk, .int .i64 xn, .int .u64 xu, .string xs, .slice xa4 xn4 xc4, .slice xa5 xn5 xc5]), Is (.bool true), Is (.bool true), Is (.bool true), Is (.agg #[.int .i64 fk, .int .i64 fn, .int .u64 fu, .string fs, .slice fa4 fn4 fc4, .slice fa5 fn5 fc5]), Is (.agg #[.int .i64 fk, .int .i64 fn, .int .u64 fu, .string fs, .slice fa4 fn4 fc4, .slice fa5 fn5 fc5]), Is (.int .i64 by0), Is (.int .i64 (by0 % 64)), Nd (retT c (by0 % 64)), Is (.bool true), Is (.bool true), Is (.bool true), Is (.bool true), Is (.bool true), Is (.bool true)]
    (by kernel_rfl) Grew.trans Grew.refl (Grew.refl _).drew (by kernel_rfl) ⟨is_st, is_st, is_st, is_st, is_st, is_st, is_st, is_st, is_st, is_st, is_st, is_st, Nd.st _, is_st, is_st, is_st, is_st, is_st, is_st, trivial⟩ ?_ rfl ?_
  rotate_left
  · intro y w2 hG hF
    simp only [factsH, Is, and_true, Nat.reduceAdd] at hF
    have hlast := hF.2.2.2.2.2.2.2.2.2.2.2.2.2.2.2.2.2.2
    clear hF
    simp only [fillL, Act.put, List.setIfInBounds_toArray, List.set_cons_zero, List.set_cons_succ, List.getD_cons_zero, List.getD_cons_succ, hlast]
    have HGF := Lib.hid (HG5.out.trans hG)
    clear hG hlast
    go_wp2_with fail
    go_ret
    exact ⟨rfl, HGF.out⟩
  refine ⟨?_, ?_⟩
  · intro y w2 hG hD K hK
    simp only [fillL, Act.put, List.setIfInBounds_toArray, List.set_cons_zero, List.set_cons_succ, List.getD_cons_zero, List.getD_cons_succ, Is] at hK ⊢
    refine ite_yes (by rfl) ?_
    go_simp
    exact hK _ _ _ rfl (Grew.refl _) rfl
  refine ⟨?_, ?_⟩
  · intro y w2 hG hD K hK
    simp only [depsH, List.getD_cons_zero, List.getD_cons_succ, Is, and_true] at hD
    have h0 := hD
    clear hD
    simp only [fillL, Act.put, List.setIfInBounds_toArray, List.set_cons_zero, List.set_cons_succ, List.getD_cons_zero, List.getD_cons_succ, Is] at hK ⊢
    simp only [h0] at hK ⊢
    clear h0
    refine ite_yes (by rfl) ?_
    go_simp
    exact hK _ _ _ rfl (Grew.refl _) rfl
  refine ⟨?_, ?_⟩
  · intro y w2 hG hD K hK
    simp only [depsH, List.getD_cons_zero, List.getD_cons_succ, Is, and_true] at hD
    have h0 := hD.1
    have h1 := hD.2
    clear hD
    simp only [fillL, Act.put, List.setIfInBounds_toArray, List.set_cons_zero, List.set_cons_succ, List.getD_cons_zero, List.getD_cons_succ, Is] at hK ⊢
    simp only [h0, h1] at hK ⊢
    clear h0 h1
    refine ite_yes (by rfl) ?_
    go_simp
    exact hK _ _ _ rfl (Grew.refl _) rfl
  refine ⟨?_, ?_⟩
  · intro y w2 hG hD K hK
    simp only [depsH, List.getD_cons_zero, List.getD_cons_succ, Is, and_true] at hD
    have h0 := hD.1
    have h1 := hD.2.1
    have h2 := hD.2.2
    clear hD
    have dc0 := hG.cell c0
    have dc1 := hG.cell c1
    have dc2 := hG.cell c2
    have dc3 := hG.cell c3
    have dc4 := hG.cell c4
    have dc5 := hG.cell c5
    simp only [fillL, Act.put, List.setIfInBounds_toArray, List.set_cons_zero, List.set_cons_succ, List.getD_cons_zero, List.getD_cons_succ, Is] at hK ⊢
    simp only [h0, h1, h2] at hK ⊢
    clear h0 h1 h2
    refine ite_yes (by rfl) ?_
    go_simp
    exact hK _ _ _ rfl (Grew.refl _) rfl
  refine ⟨?_, ?_⟩
  · intro y w2 hG hD K hK
    simp only [depsH, List.getD_cons_zero, List.getD_cons_succ, Is, and_true] at hD
    have h0 := hD.1
    have h1 := hD.2.1
    have h2 := hD.2.2
    clear hD
    have dd0 := hG.cell d0
    have dd1 := hG.cell d1
    have dd2 := hG.cell d2
    have dd3 := hG.cell d3
    have dd4 := hG.cell d4
    have dd5 := hG.cell d5
    simp only [fillL, Act.put, List.setIfInBounds_toArray, List.set_cons_zero, List.set_cons_succ, List.getD_cons_zero, List.getD_cons_succ, Is] at hK ⊢
    simp only [h0, h1, h2] at hK ⊢
    clear h0 h1 h2
    refine ite_yes (by rfl) ?_
    go_simp
    exact hK _ _ _ rfl (Grew.refl _) rfl
  refine ⟨?_, ?_⟩
  · intro y w2 hG hD K hK
    simp only [depsH, List.getD_cons_zero, List.getD_cons_succ, Is, and_true] at hD
    have h0 := hD.1
    have h1 := hD.2.1
    have h2 := hD.2.2.1
    have h3 := hD.2.2.2.1
    have h4 := hD.2.2.2.2
    clear hD
    simp only [fillL, Act.put, List.setIfInBounds_toArray, List.set_cons_zero, List.set_cons_succ, List.getD_cons_zero, List.getD_cons_succ, Is] at hK ⊢
    simp only [h0, h1, h2, h3, h4] at hK ⊢
    clear h0 h1 h2 h3 h4
    refine ite_yes (by rfl) ?_
    go_simp
    refine (alike_any c (sortT c) _ _ w2 (HC.out.grew hG) (HX.out.grew hG) (by have := HP.out.size; omega) (by have := HP.out.ssize; omega)).mono ?_
    rintro r w3 ⟨bq, rfl, hbq, hg3⟩
    obtain rfl : bq = true := hbq.2 HP.out.sort
    exact hK _ _ _ rfl hg3 rfl
  refine ⟨?_, ?_⟩
  · intro y w2 hG hD K hK
    simp only [depsH, List.getD_cons_zero, List.getD_cons_succ, Is, and_true] at hD
    have h0 := hD.1
    have h1 := hD.2.1
    have h2 := hD.2.2.1
    have h3 := hD.2.2.2.1
    have h4 := hD.2.2.2.2.1
    have h5 := hD.2.2.2.2.2
    clear hD
    simp only [fillL, Act.put, List.setIfInBounds_toArray, List.set_cons_zero, List.set_cons_succ, List.getD_cons_zero, List.getD_cons_succ, Is] at hK ⊢
    simp only [h0, h1, h2, h3, h4, h5] at hK ⊢
    clear h0 h1 h2 h3 h4 h5
    refine ite_yes (by rfl) ?_
    go_simp
    exact hK _ _ _ rfl (Grew.refl _) rfl
  refine ⟨?_, ?_⟩
  · intro y w2 hG hD K hK
    simp only [depsH, List.getD_cons_zero, List.getD_cons_succ, Is, and_true] at hD
    have h0 := hD.1
    have h1 := hD.2.1
    have h2 := hD.2.2.1
    have h3 := hD.2.2.2.1
    have h4 := hD.2.2.2.2.1
    have h5 := hD.2.2.2.2.2.1
    have h6 := hD.2.2.2.2.2.2
    clear hD
    simp only [fillL, Act.put, List.setIfInBounds_toArray, List.set_cons_zero, List.set_cons_succ, List.getD_cons_zero, List.getD_cons_succ, Is] at hK ⊢
    simp only [h0, h1, h2, h3, h4, h5, h6] at hK ⊢
    clear h0 h1 h2 h3 h4 h5 h6
    refine ite_yes (by rfl) ?_
    go_simp
    exact hK _ _ _ rfl (Grew.refl _) rfl
  refine ⟨?_, ?_⟩
  · intro y w2 hG hD K hK
    simp only [depsH, List.getD_cons_zero, List.getD_cons_succ, Is, and_true] at hD
    have h0 := hD.1
    have h1 := hD.2.1
    have h2 := hD.2.2.1
    have h3 := hD.2.2.2.1
    have h4 := hD.2.2.2.2.1
    have h5 := hD.2.2.2.2.2.1
    have h6 := hD.2.2.2.2.2.2.1
    have h7 := hD.2.2.2.2.2.2.2
    clear hD
    have dc0 := hG.cell c0
    have dc1 := hG.cell c1
    have dc2 := hG.cell c2
    have dc3 := hG.cell c3
    have dc4 := hG.cell c4
    have dc5 := hG.cell c5
    simp only [fillL, Act.put, List.setIfInBounds_toArray, List.set_cons_zero, List.set_cons_succ, List.getD_cons_zero, List.getD_cons_succ, Is] at hK ⊢
    simp only [h0, h1, h2, h3, h4, h5, h6, h7] at hK ⊢
    clear h0 h1 h2 h3 h4 h5 h6 h7
    refine ite_yes (by rfl) ?_
    go_simp
    exact hK _ _ _ rfl (Grew.refl _) rfl
  refine ⟨?_, ?_⟩
  · intro y w2 hG hD K hK
    simp only [depsH, List.getD_cons_zero, List.getD_cons_succ, Is, and_true] at hD
    have h0 := hD.1
    have h1 := hD.2.1
    have h2 := hD.2.2.1
    have h3 := hD.2.2.2.1
    have h4 := hD.2.2.2.2.1
    have h5 := hD.2.2.2.2.2.1
    have h6 := hD.2.2.2.2.2.2.1
    have h7 := hD.2.2.2.2.2.2.2
    clear hD
    have dc0 := hG.cell c0
    have dc1 := hG.cell c1
    have dc2 := hG.cell c2
    have dc3 := hG.cell c3
    have dc4 := hG.cell c4
    have dc5 := hG.cell c5
    simp only [fillL, Act.put, List.setIfInBounds_toArray, List.set_cons_zero, List.set_cons_succ, List.getD_cons_zero, List.getD_cons_succ, Is] at hK ⊢
    simp only [h0, h1, h2, h3, h4, h5, h6, h7] at hK ⊢
    clear h0 h1 h2 h3 h4 h5 h6 h7
    refine ite_yes (by rfl) ?_
    go_simp
    exact hK _ _ _ rfl (Grew.refl _) rfl
  refine ⟨?_, ?_⟩
  · intro y w2 hG hD K hK
    simp only [depsH, List.getD_cons_zero, List.getD_cons_succ, Is, and_true] at hD
    have h0 := hD.1
    have h1 := hD.2.1
    have h2 := hD.2.2.1
    have h3 := hD.2.2.2.1
    have h4 := hD.2.2.2.2.1
    have h5 := hD.2.2.2.2.2.1
    have h6 := hD.2.2.2.2.2.2.1
    have h7 := hD.2.2.2.2.2.2.2
    clear hD
    simp only [fillL, Act.put, List.setIfInBounds_toArray, List.set_cons_zero, List.set_cons_succ, List.getD_cons_zero, List.getD_cons_succ, Is] at hK ⊢
    simp only [h0, h1, h2, h3, h4, h5, h6, h7] at hK ⊢
    clear h0 h1 h2 h3 h4 h5 h6 h7
    refine ite_yes (by rfl) ?_
    go_simp
    exact hK _ _ _ rfl (Grew.refl _) rfl
  refine ⟨?_, ?_⟩
  · intro y w2 hG hD K hK
    simp only [depsH, List.getD_cons_zero, List.getD_cons_succ, Is, and_true] at hD
    have h0 := hD.1
    have h1 := hD.2.1
    have h2 := hD.2.2.1
    have h3 := hD.2.2.2.1
    have h4 := hD.2.2.2.2.1
    have h5 := hD.2.2.2.2.2.1
    have h6 := hD.2.2.2.2.2.2.1
    have h7 := hD.2.2.2.2.2.2.2.1
    have h10 := hD.2.2.2.2.2.2.2.2
    clear hD
    simp only [fillL, Act.put, List.setIfInBounds_toArray, List.set_cons_zero, List.set_cons_succ, List.getD_cons_zero, List.getD_cons_succ, Is] at hK ⊢
    simp only [h0, h1, h2, h3, h4, h5, h6, h7, h10] at hK ⊢
    clear h0 h1 h2 h3 h4 h5 h6 h7 h10
    refine ite_yes (by rfl) ?_
    go_simp
    refine (bring9_any by0 64 w2 (by omega) (by omega)).mono ?_
    rintro r w3 ⟨rfl, rfl⟩
    exact hK _ _ _ rfl (Grew.refl _) rfl
  refine ⟨?_, ?_⟩
  · intro y w2 hG hD K hK
    simp only [depsH, List.getD_cons_zero, List.getD_cons_succ, Is, and_true] at hD
    have h0 := hD.1
    have h1 := hD.2.1
    have h2 := hD.2.2.1
    have h3 := hD.2.2.2.1
    have h4 := hD.2.2.2.2.1
    have h5 := hD.2.2.2.2.2.1
    have h6 := hD.2.2.2.2.2.2.1
    have h7 := hD.2.2.2.2.2.2.2.1
    have h9 := hD.2.2.2.2.2.2.2.2.1
    have h10 := hD.2.2.2.2.2.2.2.2.2.1
    have h11 := hD.2.2.2.2.2.2.2.2.2.2
    clear hD
    simp only [fillL, Act.put, List.setIfInBounds_toArray, List.set_cons_zero, List.set_cons_succ, List.getD_cons_zero, List.getD_cons_succ, Is] at hK ⊢
    simp only [h0, h1, h2, h3, h4, h5, h6, h7, h9, h10, h11] at hK ⊢
    clear h0 h1 h2 h3 h4 h5 h6 h7 h9 h10 h11
    refine ite_yes (by rfl) ?_
    go_simp
    refine (ret_any c.size c (Nat.le_refl _) (by0 % 64) _ w2 (HC.out.grew hG) HP.out.few (by omega) (by omega)).mono ?_
    rintro r w3 ⟨v', rfl, ho, hg3⟩
    exact hK _ _ _ rfl hg3 ho.node
  refine ⟨?_, ?_⟩
  · intro y w2 hG hD K hK
    simp only [depsH, List.getD_cons_zero, List.getD_cons_succ, Is, and_true] at hD
    have h0 := hD.1
    have h1 := hD.2.1
    have h2 := hD.2.2.1
    have h3 := hD.2.2.2.1
    have h4 := hD.2.2.2.2.1
    have h5 := hD.2.2.2.2.2.1
    have h6 := hD.2.2.2.2.2.2.1
    have h7 := hD.2.2.2.2.2.2.2.1
    have h8 := hD.2.2.2.2.2.2.2.2.1
    have h9 := hD.2.2.2.2.2.2.2.2.2.1
    have h10 := hD.2.2.2.2.2.2.2.2.2.2.1
    have h11 := hD.2.2.2.2.2.2.2.2.2.2.2.1
    have h12 := hD.2.2.2.2.2.2.2.2.2.2.2.2
    clear hD
    simp only [fillL, Act.put, List.setIfInBounds_toArray, List.set_cons_zero, List.set_cons_succ, List.getD_cons_zero, List.getD_cons_succ, Is] at hK ⊢
    simp only [h0, h1, h2, h3, h4, h5, h6, h7, h8, h9, h10, h11] at hK ⊢
    clear h0 h1 h2 h3 h4 h5 h6 h7 h8 h9 h10 h11
    refine ite_yes (by rfl) ?_
    go_simp
    refine (alike_any c (retT c (by0 % 64)) _ _ w2 (HC.out.grew hG) h12 (by have := HP.out.size; omega) (by have := (HP.out.ret (by0 % 64)).2; omega)).mono ?_
    rintro r w3 ⟨bq, rfl, hbq, hg3⟩
    obtain rfl : bq = true := hbq.2 (HP.out.ret _).1
    exact hK _ _ _ rfl hg3 rfl
  refine ⟨?_, ?_⟩
  · intro y w2 hG hD K hK
    simp only [depsH, List.getD_cons_zero, List.getD_cons_succ, Is, and_true] at hD
    have h0 := hD.1
    have h1 := hD.2.1
    have h2 := hD.2.2.1
    have h3 := hD.2.2.2.1
    have h4 := hD.2.2.2.2.1
    have h5 := hD.2.2.2.2.2.1
    have h6 := hD.2.2.2.2.2.2.1
    have h7 := hD.2.2.2.2.2.2.2.1
    have h8 := hD.2.2.2.2.2.2.2.2.1
    have h9 := hD.2.2.2.2.2.2.2.2.2.1
    have h10 := hD.2.2.2.2.2.2.2.2.2.2.1
    have h11 := hD.2.2.2.2.2.2.2.2.2.2.2.1
    have h12 := hD.2.2.2.2.2.2.2.2.2.2.2.2.1
    have h13 := hD.2.2.2.2.2.2.2.2.2.2.2.2.2
    clear hD
    simp only [fillL, Act.put, List.setIfInBounds_toArray, List.set_cons_zero, List.set_cons_succ, List.getD_cons_zero, List.getD_cons_succ, Is] at hK ⊢
    simp only [h0, h1, h2, h3, h4, h5, h6, h7, h8, h9, h10, h11, h13] at hK ⊢
    clear h0 h1 h2 h3 h4 h5 h6 h7 h8 h9 h10 h11 h13
    refine ite_yes (by rfl) ?_
    go_simp
    exact hK _ _ _ rfl (Grew.refl _) rfl
  refine ⟨?_, ?_⟩
  · intro y w2 hG hD K hK
    simp only [depsH, List.getD_cons_zero, List.getD_cons_succ, Is, and_true] at hD
    have h0 := hD.1
    have h1 := hD.2.1
    have h2 := hD.2.2.1
    have h3 := hD.2.2.2.1
    have h4 := hD.2.2.2.2.1
    have h5 := hD.2.2.2.2.2.1
    have h6 := hD.2.2.2.2.2.2.1
    have h7 := hD.2.2.2.2.2.2.2.1
    have h8 := hD.2.2.2.2.2.2.2.2.1
    have h9 := hD.2.2.2.2.2.2.2.2.2.1
    have h10 := hD.2.2.2.2.2.2.2.2.2.2.1
    have h11 := hD.2.2.2.2.2.2.2.2.2.2.2.1
    have h12 := hD.2.2.2.2.2.2.2.2.2.2.2.2.1
    have h13 := hD.2.2.2.2.2.2.2.2.2.2.2.2.2.1
    have h14 := hD.2.2.2.2.2.2.2.2.2.2.2.2.2.2
    clear hD
    simp only [fillL, Act.put, List.setIfInBounds_toArray, List.set_cons_zero, List.set_cons_succ, List.getD_cons_zero, List.getD_cons_succ, Is] at hK ⊢
    simp only [h0, h1, h2, h3, h4, h5, h6, h7, h8, h9, h10, h11, h13, h14] at hK ⊢
    clear h0 h1 h2 h3 h4 h5 h6 h7 h8 h9 h10 h11 h13 h14
    refine ite_yes (by rfl) ?_
    go_simp
    exact hK _ _ _ rfl (Grew.refl _) rfl
  refine ⟨?_, ?_⟩
  · intro y w2 hG hD K hK
    simp only [depsH, List.getD_cons_zero, List.getD_cons_succ, Is, and_true] at hD
    have h0 := hD.1
    have h1 := hD.2.1
    have h2 := hD.2.2.1
    have h3 := hD.2.2.2.1
    have h4 := hD.2.2.2.2.1
    have h5 := hD.2.2.2.2.2.1
    have h6 := hD.2.2.2.2.2.2.1
    have h7 := hD.2.2.2.2.2.2.2.1
    have h8 := hD.2.2.2.2.2.2.2.2.1
    have h9 := hD.2.2.2.2.2.2.2.2.2.1
    have h10 := hD.2.2.2.2.2.2.2.2.2.2.1
    have h11 := hD.2.2.2.2.2.2.2.2.2.2.2.1
    have h12 := hD.2.2.2.2.2.2.2.2.2.2.2.2.1
    have h13 := hD.2.2.2.2.2.2.2.2.2.2.2.2.2.1
    have h14 := hD.2.2.2.2.2.2.2.2.2.2.2.2.2.2.1
    have h15 := hD.2.2.2.2.2.2.2.2.2.2.2.2.2.2.2
    clear hD
    simp only [fillL, Act.put, List.setIfInBounds_toArray, List.set_cons_zero, List.set_cons_succ, List.getD_cons_zero, List.getD_cons_succ, Is] at hK ⊢
    simp only [h0, h1, h2, h3, h4, h5, h6, h7, h8, h9, h10, h11, h13, h14, h15] at hK ⊢
    clear h0 h1 h2 h3 h4 h5 h6 h7 h8 h9 h10 h11 h13 h14 h15
    refine ite_yes (by rfl) ?_
    go_simp
    refine (works09_any w2).mono ?_
    rintro r w3 ⟨rfl, hg3⟩
    exact hK _ _ _ rfl hg3 rfl
  refine ⟨?_, ?_⟩
  · intro y w2 hG hD K hK
    simp only [depsH, List.getD_cons_zero, List.getD_cons_succ, Is, and_true] at hD
    have h0 := hD.1
    have h1 := hD.2.1
    have h2 := hD.2.2.1
    have h3 := hD.2.2.2.1
    have h4 := hD.2.2.2.2.1
    have h5 := hD.2.2.2.2.2.1
    have h6 := hD.2.2.2.2.2.2.1
    have h7 := hD.2.2.2.2.2.2.2.1
    have h8 := hD.2.2.2.2.2.2.2.2.1
    have h9 := hD.2.2.2.2.2.2.2.2.2.1
    have h10 := hD.2.2.2.2.2.2.2.2.2.2.1
    have h11 := hD.2.2.2.2.2.2.2.2.2.2.2.1
    have h12 := hD.2.2.2.2.2.2.2.2.2.2.2.2.1
    have h13 := hD.2.2.2.2.2.2.2.2.2.2.2.2.2.1
    have h14 := hD.2.2.2.2.2.2.2.2.2.2.2.2.2.2.1
    have h15 := hD.2.2.2.2.2.2.2.2.2.2.2.2.2.2.2.1
    have h16 := hD.2.2.2.2.2.2.2.2.2.2.2.2.2.2.2.2
    clear hD
    simp only [fillL, Act.put, List.setIfInBounds_toArray, List.set_cons_zero, List.set_cons_succ, List.getD_cons_zero, List.getD_cons_succ, Is] at hK ⊢
    simp only [h0, h1, h2, h3, h4, h5, h6, h7, h8, h9, h10, h11, h13, h14, h15, h16] at hK ⊢
    clear h0 h1 h2 h3 h4 h5 h6 h7 h8 h9 h10 h11 h13 h14 h15 h16
    refine ite_yes (by rfl) ?_
    go_simp
    exact hK _ _ _ rfl (Grew.refl _) rfl
  refine ⟨?_, ?_⟩
  · intro y w2 hG hD K hK
    simp only [depsH, List.getD_cons_zero, List.getD_cons_succ, Is, and_true] at hD
    have h0 := hD.1
    have h1 := hD.2.1
    have h2 := hD.2.2.1
    have h3 := hD.2.2.2.1
    have h4 := hD.2.2.2.2.1
    have h5 := hD.2.2.2.2.2.1
    have h6 := hD.2.2.2.2.2.2.1
    have h7 := hD.2.2.2.2.2.2.2.1
    have h8 := hD.2.2.2.2.2.2.2.2.1
    have h9 := hD.2.2.2.2.2.2.2.2.2.1
    have h10 := hD.2.2.2.2.2.2.2.2.2.2.1
    have h11 := hD.2.2.2.2.2.2.2.2.2.2.2.1
    have h12 := hD.2.2.2.2.2.2.2.2.2.2.2.2.1
    have h13 := hD.2.2.2.2.2.2.2.2.2.2.2.2.2.1
    have h14 := hD.2.2.2.2.2.2.2.2.2.2.2.2.2.2.1
    have h15 := hD.2.2.2.2.2.2.2.2.2.2.2.2.2.2.2.1
    have h16 := hD.2.2.2.2.2.2.2.2.2.2.2.2.2.2.2.2.1
    have h17 := hD.2.2.2.2.2.2.2.2.2.2.2.2.2.2.2.2.2
    clear hD
    simp only [fillL, Act.put, List.setIfInBounds_toArray, List.set_cons_zero, List.set_cons_succ, List.getD_cons_zero, List.getD_cons_succ, Is] at hK ⊢
    simp only [h0, h1, h2, h3, h4, h5, h6, h7, h8, h9, h10, h11, h13, h14, h15, h16, h17] at hK ⊢
    clear h0 h1 h2 h3 h4 h5 h6 h7 h8 h9 h10 h11 h13 h14 h15 h16 h17
    refine ite_yes (by rfl) ?_
    go_simp
    exact hK _ _ _ rfl (Grew.refl _) rfl
  trivial

theorem normalTags_own : ownKnob Try.prog.godebug = none := by kernel_rfl
theorem normalTags_laidOut : laidOutB Try.prog = true := by kernel_rfl

set_option maxRecDepth 100000 in
theorem normalTags_lifted (os : Os) (started : os.Started) (H : Type) (enc : TypeId × Value → H) :
    ReturnsInHanded {} Try.checked os 5 .any (Rows.normalTagsSpec.pre6 enc Try.prog Try.f5 Rows.normalTagsRow.domain false) (Rows.normalTagsSpec.post enc Try.prog Try.f5 false true false false) := by
  refine returnsInHanded_of_change (C := Try.checked) normalTags_own started (by kernel_rfl) Try.func5
    (ChangeSpec.witness6 (enc := enc) (C := Try.checked) false ⟨#[], #[.agg #[.int .i64 0, .int .i64 0, .int .u64 0, .string ⟨#[]⟩, .slice none 0 0, .slice none 0 0], .int .i64 0], []⟩ 8 (by kernel_rfl) (by kernel_rfl) (by kernel_rfl) (by kernel_rfl)) ?_
  intro W base args ds gs before hval0 hW hcnd _
  have hval : ∀ (j : Nat) t v, Try.f5.params[j]? = some t → args[j]? = some v → Value.okWide Try.prog W .any base t v := hval0
  have hW' := hW
  obtain ⟨p, q, hA0, hV, rfl, hfz, hnd⟩ := hW
  have hA : DataW.TrodAll enc Try.prog W 0 (fun _ => true) true Try.f5.params.toList args.toList ds p := hA0
  rw [Try.params5] at hA hval
  obtain ⟨v0, vs0, d0, ds0, p0, q0, hargs, rfl, rfl, h0, r0⟩ := trodAll_cons hA
  obtain ⟨v1, vs1, d1, ds1, p1, q1, rfl, rfl, rfl, h1, r1⟩ := trodAll_cons r0
  obtain ⟨rfl, rfl, rfl⟩ := trodAll_nil r1
  obtain rfl : args = #[v0, v1] := by cases args; simp_all
  obtain ⟨rfl, rfl⟩ := trodVars_none hV
  have lt0 : ∀ x ∈ p0, x.block < W.heap.size := by obtain ⟨m, hm⟩ := h0; exact DataW.trod_lt m _ _ _ hm
  have lt1 : ∀ x ∈ p1, x.block < W.heap.size := by obtain ⟨m, hm⟩ := h1; exact DataW.trod_lt m _ _ _ hm
  have hw := normalTags_row enc W base v0 d0 p0 (hval 0 26 v0 rfl rfl) h0 v1 d1 p1 (hval 1 3 v1 rfl rfl) h1
  clear hA0 hval0
  refine hw.mono fun e W' ⟨he, bel⟩ => ?_
  subst he
  exact ⟨_, rfl, _, _, _, [], _, [], hW', trodAll_mk1 (shut_bool Try.underlying4 _), (trodAll_cons_mk (Below.trod normalTags_laidOut (by kernel_rfl) (of_decide_eq_true (by kernel_rfl)) h0 bel lt0) (trodAll_cons_mk (Below.trod normalTags_laidOut (by kernel_rfl) (of_decide_eq_true (by kernel_rfl)) h1 bel lt1) trodAll_mk0)), rfl, Below.frame bel _, fun h => by cases h⟩

/-- The statement. -/
theorem normalTags_holds : Rows.NormalTagsSaid :=
  OpenClaim.holds_of_wide 5 Try.f5 rfl rfl rfl rfl rfl rfl rfl ⟨rfl, rfl, rfl, rfl, rfl⟩ rfl rfl rfl rfl rfl (by kernel_rfl) Try.func5 (by kernel_rfl)
    (of_decide_eq_true (by kernel_rfl)) (by unfold Func.isWrapper; first | (rw [if_pos (by decide +kernel)]; kernel_rfl) | (rw [if_neg (by decide +kernel)]; exact ⟨rfl, rfl⟩))
    (fun os started H enc _ => normalTags_lifted os started H enc)
end Go.Proofs.Ytfbeepkogcmlmaa
