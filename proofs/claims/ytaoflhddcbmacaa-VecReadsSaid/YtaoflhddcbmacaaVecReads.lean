/-
  VecReads: what was written is unchanged and the encoding reads back: the length, each number, each target, each tag. Conditions: none beyond the statement's own.
-/
import Derived.Test.YtaoflhddcbmacaaVecOpen
import Derived.Test.YtaoflhddcbmacaaVecRead
import Derived.Deep.QuietTactic
import Derived.BigQuiet
namespace Go.Proofs.Ytaoflhddcbmacaa
open Go Go.ChangeShapes Go.WideShapes Go.ChangeAt Go.RowKit Go.Joins Go.Deep
open Go.Proofs.Ytaoflhddcbmacaa.Ft (V3 vV okV ValsAt inlineB legalB packF codeF typedF allF unpackF unpack_any)
set_option linter.unusedVariables false
set_option linter.unusedSimpArgs false

theorem bytes_form {w : World} {v : Value} {X : List UInt8} (h : BytesAt w v X) (hX : 0 < X.length) : ∃ bl off c, v = .slice (some ⟨bl, off, none⟩) X.length c ∧ X.length ≤ c ∧ bl < w.heap.size := by
  obtain ⟨a, c, rfl, hc, _, hcell⟩ := h
  obtain ⟨bl, off, rfl, h0⟩ := hcell 0 X[0] (List.getElem?_eq_getElem hX)
  exact ⟨bl, off, c, rfl, hc, World.block_lt_of_cell? w _ h0⟩
theorem bytes_cell {w : World} {bl off c : Nat} {X : List UInt8} (h : BytesAt w (.slice (some ⟨bl, off, none⟩) X.length c) X) (k : Nat) (b : UInt8) (hk : X[k]? = some b) : w.cell? ⟨bl, off + k, none⟩ = some (.int .u8 b.toNat) := by
  obtain ⟨a, c', e, _, _, hcell⟩ := h
  cases e
  obtain ⟨bl', off', e, h0⟩ := hcell k b hk
  cases e
  exact h0
set_option maxRecDepth 100000 in
set_option maxHeartbeats 8000000 in
theorem vecReads_any (a : Int) (lv : Value) (l : List (Int × Int)) (W : World) (hp : PairsAt W lv l) (hlen : l.length ≤ 9223372036854775807) :
    Calls Try.prog 7 #[.int .i64 a, lv] W fun r w' => r = .returned (.bool true) ∧ Below W.heap.size W w' := by
  have HP := Lib.hid hp
  obtain ⟨la, lc, rfl, hcell⟩ := hp
  clear hcell
  go_enter Try.func7, Try.ntmps7
  go_wp2_with fail
  refine (works17_any _).mono ?_
  rintro r w1 ⟨rfl, hg1⟩
  have HG1 := Lib.hid hg1
  clear hg1
  go_wp2_with fail
  refine (bringL_any a 70000 _ (by omega) (by omega)).mono ?_
  rintro r w' ⟨rfl, e⟩
  subst e
  obtain ⟨m, hm⟩ : ∃ m : Nat, a % 70000 = m := ⟨(a % 70000).toNat, by omega⟩
  rw [hm]
  have hm2 : m < 70000 := by omega
  clear hm
  go_wp2_with fail
  obtain ⟨n, hn⟩ : ∃ n : Nat, 1 + (m : Int) = n := ⟨m + 1, by omega⟩
  rw [hn]
  have hn1 : 1 ≤ n := by omega
  have hn2 : n ≤ 70000 := by omega
  clear hn hm2
  refine (filled_any 1048576 n _ (by omega)).mono ?_
  rintro r w2 ⟨rfl, hl⟩
  rw [roomOf_big, filled_big n (by omega)] at hl
  have HL := Lib.hid hl
  clear hl
  go_wp2_with fail
  refine (values_any n _ l _ (HP.out.grew (HG1.out.trans HL.out.below)) (by omega) (by omega) hlen).mono ?_
  rintro r w3 ⟨vv, rfl, hown, hg⟩
  have HO := Lib.hid hown
  have HG3 := Lib.hid hg
  obtain ⟨va, vc, rfl, hvc⟩ := own_form hown
  have HNR : Hid (∀ v ∈ valsF l n, Near n v) := near_vals l n (by omega) (by omega)
  have HBK : Hid (∀ x : Int, isW x = true → ∀ v ∈ valsF l n, (inlineB v.1 = true → v.2.1 ≤ x) → Back x v) := fun x hx => back_vals l n x (by omega) hx
  have hl3 : (valsF l n).length ≤ 300 := by rw [valsF_length]; omega
  generalize valsF l n = L at *
  clear hown hg hvc
  go_wp2_with fail
  obtain ⟨o, hb0, hbel, h3, h4⟩ := HL.out
  have hb := hb0.grew HG3.out
  refine (put_un (zeros n, 0) _ L hb (Nat.le_trans hbel.size HG3.out.size) h3 h4 HO.out.vals (by omega) (okV_vals HNR.out) ?_ rfl).mono ?_
  · intro ad n' c' e
    have hlt := own_lt HO.out e
    have hge := own_ge HO.out e
    exact ⟨hlt, fun hq => by have := hb0.lt _ hq; omega⟩
  rintro r w4 ⟨rfl, ht⟩
  have hzl : (zeros n).length = n := length_zeros n
  obtain ⟨x, hx⟩ : ∃ x, allF L (0, 0, 0) n 1 = x := ⟨_, rfl⟩
  have hx1 : allF L (0, 0, 0) (zeros n).length (if true = true then 1 else 0) = x := by rw [hzl, if_pos rfl]; exact hx
  obtain ⟨_, _, hw, _⟩ := allF_near (n := n) (ahead := 1) (.inr rfl) (by omega) (by omega) (by omega) HNR.out
  rw [hx] at hw
  have hq := putF_ok (most := 1048576) (T := legalE) (len := true) (tagged := true) (kind := 10) (b := zeros n) (l := L) (x := x) (legal_vals HNR.out) (by omega) (by omega) (by rw [hzl]; exact HNR.out) hx1 (by have := lenOf_le hw true true (zeros n) L; omega)
  rw [hq] at ht ⊢
  have hpad := padN_lt (l := zeros n) hw
  have hxp := isW_pos hw
  obtain ⟨p, hpp⟩ : ∃ p : Int, ((zeros n).length : Int) + padN (zeros n) x + (if true = true then x else 0) = p := ⟨_, rfl⟩
  rw [hpp]
  have hp0 : 0 ≤ p := by rw [← hpp, hzl, if_pos rfl]; omega
  have hp1 : p ≤ 100000 := by rw [← hpp, hzl, if_pos rfl]; omega
  have HD := held (n := n) (l := L) (x := x) (p := p) (len := true) (tagged := true) (by omega) (by omega) HNR.out hx hpp
  rw [show putV ((10, x, p), 0) = .tuple #[.agg #[.int .i64 10, .int .i64 x, .int .u64 p], .int .i64 0] from rfl]
  generalize (zeros n ++ (pieces x true true (zeros n) L).flatten) = X at *
  have HVM : Hid (ValsAt w4 (.slice va L.length vc) L) := by
    obtain ⟨_, _, _, hm⟩ := ht
    refine vals_moved HO.out.vals hm fun ad n' c' e hq => ?_
    have hge := own_ge HO.out e
    have := hb0.lt _ hq
    omega
  have hXm : ((X.length : Nat) : Int) ≤ 1048576 := by
    have h1 := HD.2.1.len
    have hm : x * (L.length : Int) ≤ 8 * L.length := Int.mul_le_mul_of_nonneg_right hxp.2 (by omega)
    simp only [if_true] at h1
    omega
  have HL4 := Lib.hid (Live.turn (s' := (X, 0)) hb (Below.trans hbel (Below.mono HG3.out hbel.size)) ht hXm h4)
  clear ht hb hb0 hbel h3 h4 hq hpp hpad hx hx1 hzl
  obtain ⟨_, hHeld, hmod, hlo, hhi, hlenL, hinl⟩ := HD
  simp only [if_true] at hmod hlo hhi
  have HLEN := Lib.hid (hlenL rfl)
  have HBACK : Hid (∀ v ∈ L, Back x v) := fun v hv => HBK.out x hw v hv (hinl v hv)
  clear hlenL hinl HBK
  have hXn : (n : Int) ≤ X.length := by
    have h1 := hHeld.len
    have hm : 0 ≤ x * (L.length : Int) := Int.mul_nonneg (by omega) (by omega)
    simp only [if_true] at h1
    omega
  have hXs := hHeld.len
  simp only [if_true] at hXs
  have HXS := Lib.hid hXs
  clear hXs
  have HHELD := Lib.hid hHeld
  have HHEAD := Lib.hid hHeld.head
  have HLOHI := Lib.hid (And.intro hmod (And.intro hlo hhi))
  clear hHeld hmod hlo hhi
  have HW := Lib.hid hw
  clear HL HO HG3
  go_wp2_with fail
  have hgr := (Grew.refl w4).alloc (.cells #[.int .i64 10, .int .i64 x, .int .u64 p] 28)
  have hr4 := heap_alloc_new w4 (.cells #[.int .i64 10, .int .i64 x, .int .u64 p] 28)
  refine (bytesL (HL4.out.grew hgr)).mono ?_
  rintro r w5 ⟨vb, rfl, hvb, _, hg5⟩
  replace hvb : BytesAt w5 vb X := hvb
  obtain ⟨bl, off, cb, rfl, hcb, hbl⟩ := bytes_form hvb (by omega)
  have hrow := hg5.heap hr4
  have c0 := row_cell hrow 0 _ rfl
  have c1 := row_cell hrow 1 _ rfl
  have c2 := row_cell hrow 2 _ rfl
  have HVB := Lib.hid hvb
  have HV5 : Hid (ValsAt w5 (.slice va L.length vc) L) := HVM.out.grew (hgr.trans hg5)
  have HG5 : Hid (Grew W w5) := (HG1.out.trans HL4.out.below).trans (hgr.trans hg5)
  have HBL := Lib.hid hbl
  have hncb : (n : Int) ≤ cb := by omega
  have hXne : ¬ ((X.length : Int) < n) := by omega
  clear hvb hrow hr4 hgr hg5 HL4 HVM HG1 HP hbl hw
  go_wp2_with fail
  refine wp_region_tables Grew [[], [0], [1], [2], [2, 3], [2, 4], [5], [6], [6, 7], [6, 8], [6, 9], [10], [11], [11, 12], [11], [11, 13, 14], [11, 15], [16], [17], [17], [17, 18, 19], [17], [17, 21], [17, 20, 22], [17, 23], [17, 24]] [[(47, 2), (48, 3), (49, 4), (50, 5), (51, 6), (52, 7), (53, 8), (54, 9), (55, 10), (56, 11), (57, 12), (58, 13), (59, 14), (60, 15), (61, 16), (62, 17), (63, 18), (64, 19), (65, 20), (66, 21), (67, 22), (68, 23), (69, 24), (70, 25)], [(45, 0), (48, 3), (49, 4), (50, 5), (51, 6), (52, 7), (53, 8), (54, 9), (55, 10), (56, 11), (57, 12), (58, 13), (59, 14), (60, 15), (61, 16), (62, 17), (63, 18), (64, 19), (65, 20), (66, 21), (67, 22), (68, 23), (69, 24), (70, 25)], [(45, 0), (46, 1), (51, 6), (52, 7), (53, 8), (54, 9), (55, 10), (56, 11), (57, 12), (58, 13), (59, 14), (60, 15), (61, 16), (62, 17), (63, 18), (64, 19), (65, 20), (66, 21), (67, 22), (68, 23), (69, 24), (70, 25)], [(45, 0), (46, 1), (47, 2), (50, 5), (51, 6), (52, 7), (53, 8), (54, 9), (55, 10), (56, 11), (57, 12), (58, 13), (59, 14), (60, 15), (61, 16), (62, 17), (63, 18), (64, 19), (65, 20), (66, 21), (67, 22), (68, 23), (69, 24), (70, 25)], [(45, 0), (46, 1), (47, 2), (48, 3), (51, 6), (52, 7), (53, 8), (54, 9), (55, 10), (56, 11), (57, 12), (58, 13), (59, 14), (60, 15), (61, 16), (62, 17), (63, 18), (64, 19), (65, 20), (66, 21), (67, 22), (68, 23), (69, 24), (70, 25)], [(45, 0), (46, 1), (47, 2), (48, 3), (49, 4), (52, 7), (53, 8), (54, 9), (55, 10), (56, 11), (57, 12), (58, 13), (59, 14), (60, 15), (61, 16), (62, 17), (63, 18), (64, 19), (65, 20), (66, 21), (67, 22), (68, 23), (69, 24), (70, 25)], [(45, 0), (46, 1), (47, 2), (48, 3), (49, 4), (50, 5), (56, 11), (57, 12), (58, 13), (59, 14), (60, 15), (61, 16), (62, 17), (63, 18), (64, 19), (65, 20), (66, 21), (67, 22), (68, 23), (69, 24), (70, 25)], [(45, 0), (46, 1), (47, 2), (48, 3), (49, 4), (50, 5), (51, 6), (54, 9), (55, 10), (56, 11), (57, 12), (58, 13), (59, 14), (60, 15), (61, 16), (62, 17), (63, 18), (64, 19), (65, 20), (66, 21), (67, 22), (68, 23), (69, 24), (70, 25)], [(45, 0), (46, 1), (47, 2), (48, 3), (49, 4), (50, 5), (51, 6), (52, 7), (55, 10), (56, 11), (57, 12), (58, 13), (59, 14), (60, 15), (61, 16), (62, 17), (63, 18), (64, 19), (65, 20), (66, 21), (67, 22), (68, 23), (69, 24), (70, 25)], [(45, 0), (46, 1), (47, 2), (48, 3), (49, 4), (50, 5), (51, 6), (52, 7), (53, 8), (56, 11), (57, 12), (58, 13), (59, 14), (60, 15), (61, 16), (62, 17), (63, 18), (64, 19), (65, 20), (66, 21), (67, 22), (68, 23), (69, 24), (70, 25)], [(45, 0), (46, 1), (47, 2), (48, 3), (49, 4), (50, 5), (51, 6), (52, 7), (53, 8), (54, 9), (57, 12), (58, 13), (59, 14), (60, 15), (61, 16), (62, 17), (63, 18), (64, 19), (65, 20), (66, 21), (67, 22), (68, 23), (69, 24), (70, 25)], [(45, 0), (46, 1), (47, 2), (48, 3), (49, 4), (50, 5), (51, 6), (52, 7), (53, 8), (54, 9), (55, 10), (62, 17), (63, 18), (64, 19), (65, 20), (66, 21), (67, 22), (68, 23), (69, 24), (70, 25)], [(45, 0), (46, 1), (47, 2), (48, 3), (49, 4), (50, 5), (51, 6), (52, 7), (53, 8), (54, 9), (55, 10), (56, 11), (59, 14), (60, 15), (61, 16), (62, 17), (63, 18), (64, 19), (65, 20), (66, 21), (67, 22), (68, 23), (69, 24), (70, 25)], [(45, 0), (46, 1), (47, 2), (48, 3), (49, 4), (50, 5), (51, 6), (52, 7), (53, 8), (54, 9), (55, 10), (56, 11), (57, 12), (59, 14), (61, 16), (62, 17), (63, 18), (64, 19), (65, 20), (66, 21), (67, 22), (68, 23), (69, 24), (70, 25)], [(45, 0), (46, 1), (47, 2), (48, 3), (49, 4), (50, 5), (51, 6), (52, 7), (53, 8), (54, 9), (55, 10), (56, 11), (57, 12), (58, 13), (61, 16), (62, 17), (63, 18), (64, 19), (65, 20), (66, 21), (67, 22), (68, 23), (69, 24), (70, 25)], [(45, 0), (46, 1), (47, 2), (48, 3), (49, 4), (50, 5), (51, 6), (52, 7), (53, 8), (54, 9), (55, 10), (56, 11), (57, 12), (58, 13), (59, 14), (62, 17), (63, 18), (64, 19), (65, 20), (66, 21), (67, 22), (68, 23), (69, 24), (70, 25)], [(45, 0), (46, 1), (47, 2), (48, 3), (49, 4), (50, 5), (51, 6), (52, 7), (53, 8), (54, 9), (55, 10), (56, 11), (57, 12), (58, 13), (59, 14), (60, 15), (63, 18), (64, 19), (65, 20), (66, 21), (67, 22), (68, 23), (69, 24), (70, 25)], [(45, 0), (46, 1), (47, 2), (48, 3), (49, 4), (50, 5), (51, 6), (52, 7), (53, 8), (54, 9), (55, 10), (56, 11), (57, 12), (58, 13), (59, 14), (60, 15), (61, 16)], [(45, 0), (46, 1), (47, 2), (48, 3), (49, 4), (50, 5), (51, 6), (52, 7), (53, 8), (54, 9), (55, 10), (56, 11), (57, 12), (58, 13), (59, 14), (60, 15), (61, 16), (62, 17), (64, 19), (66, 21), (67, 22), (68, 23), (69, 24), (70, 25)], [(45, 0), (46, 1), (47, 2), (48, 3), (49, 4), (50, 5), (51, 6), (52, 7), (53, 8), (54, 9), (55, 10), (56, 11), (57, 12), (58, 13), (59, 14), (60, 15), (61, 16), (62, 17), (63, 18), (66, 21), (67, 22), (68, 23), (69, 24), (70, 25)], [(45, 0), (46, 1), (47, 2), (48, 3), (49, 4), (50, 5), (51, 6), (52, 7), (53, 8), (54, 9), (55, 10), (56, 11), (57, 12), (58, 13), (59, 14), (60, 15), (61, 16), (62, 17), (63, 18), (64, 19), (66, 21), (67, 22), (69, 24), (70, 25)], [(45, 0), (46, 1), (47, 2), (48, 3), (49, 4), (50, 5), (51, 6), (52, 7), (53, 8), (54, 9), (55, 10), (56, 11), (57, 12), (58, 13), (59, 14), (60, 15), (61, 16), (62, 17), (63, 18), (64, 19), (65, 20), (68, 23), (69, 24), (70, 25)], [(45, 0), (46, 1), (47, 2), (48, 3), (49, 4), (50, 5), (51, 6), (52, 7), (53, 8), (54, 9), (55, 10), (56, 11), (57, 12), (58, 13), (59, 14), (60, 15), (61, 16), (62, 17), (63, 18), (64, 19), (65, 20), (66, 21), (69, 24), (70, 25)], [(45, 0), (46, 1), (47, 2), (48, 3), (49, 4), (50, 5), (51, 6), (52, 7), (53, 8), (54, 9), (55, 10), (56, 11), (57, 12), (58, 13), (59, 14), (60, 15), (61, 16), (62, 17), (63, 18), (64, 19), (65, 20), (66, 21), (67, 22), (70, 25)], [(45, 0), (46, 1), (47, 2), (48, 3), (49, 4), (50, 5), (51, 6), (52, 7), (53, 8), (54, 9), (55, 10), (56, 11), (57, 12), (58, 13), (59, 14), (60, 15), (61, 16), (62, 17), (63, 18), (64, 19), (65, 20), (66, 21), (67, 22), (68, 23)], [(45, 0), (46, 1), (47, 2), (48, 3), (49, 4), (50, 5), (51, 6), (52, 7), (53, 8), (54, 9), (55, 10), (56, 11), (57, 12), (58, 13), (59, 14), (60, 15), (61, 16), (62, 17), (63, 18), (64, 19), (65, 20), (66, 21), (67, 22), (68, 23), (69, 24)]] [(45, 0), (46, 1), (47, 2), (48, 3), (49, 4), (50, 5), (51, 6), (52, 7), (53, 8), (54, 9), (55, 10), (56, 11), (57, 12), (58, 13), (59, 14), (60, 15), (61, 16), (62, 17), (63, 18), (64, 19), (65, 20), (66, 21), (67, 22), (68, 23), (69, 24), (70, 25)]
    [Is (.int .i64 0), Is (.bool false), Is (.bool false), Is (.int .i64 0), Is (.bool false), Is (.bool false), Is (.bool false), Is (.pointer (some ⟨w4.heap.size, 0, none⟩)), Is (.int .i64 10), Is (.bool false), Is (.bool false), Is (.bool false), Is (.slice (some ⟨bl, off, none⟩) X.length cb), Is (.int .i64 (X.length : Int)), Is (.int .i64 (n : Int)), Is (.bool false), Is (.bool false), Is (.bool false), Is (.slice (some ⟨bl, off, none⟩) X.length cb), Is (.int .i64 (n : Int)), Is (.slice (some ⟨bl, off, none⟩) n cb), Is (.int .i64 (n : Int)), fun v w => BytesAt w v (zeros n), Is (.bool true), Is (.bool false), Is (.bool false)]
    (by kernel_rfl) Grew.trans Grew.refl (Grew.refl _).drew (by kernel_rfl) ⟨is_st, is_st, is_st, is_st, is_st, is_st, is_st, is_st, is_st, is_st, is_st, is_st, is_st, is_st, is_st, is_st, is_st, is_st, is_st, is_st, is_st, is_st, fun _ _ _ hr h => BytesAt.grew h hr, is_st, is_st, is_st, trivial⟩ ⟨?_, ?_, ?_, ?_, ?_, ?_, ?_, ?_, ?_, ?_, ?_, ?_, ?_, ?_, ?_, ?_, ?_, ?_, ?_, ?_, ?_, ?_, ?_, ?_, ?_, ?_, trivial⟩ rfl ?_
  · intro y w2 hG hD K hK
    simp only [fillL, Act.put, List.setIfInBounds_toArray, List.set_cons_zero, List.set_cons_succ, List.getD_cons_zero, List.getD_cons_succ, Is] at hK ⊢
    refine ite_yes (by rfl) ?_
    go_simp
    exact hK _ _ _ rfl (Grew.refl _) rfl
  · intro y w2 hG hD K hK
    simp only [depsH, List.getD_cons_zero, List.getD_cons_succ, Is, and_true] at hD
    have h0 := hD
    clear hD
    simp only [fillL, Act.put, List.setIfInBounds_toArray, List.set_cons_zero, List.set_cons_succ, List.getD_cons_zero, List.getD_cons_succ, Is] at hK ⊢
    rw [h0] at hK ⊢
    clear h0
    refine ite_yes (by rfl) ?_
    go_simp
    exact hK _ _ _ rfl (Grew.refl _) rfl
  · intro y w2 hG hD K hK
    simp only [depsH, List.getD_cons_zero, List.getD_cons_succ, Is, and_true] at hD
    have h1 := hD
    clear hD
    simp only [fillL, Act.put, List.setIfInBounds_toArray, List.set_cons_zero, List.set_cons_succ, List.getD_cons_zero, List.getD_cons_succ, Is] at hK ⊢
    rw [h1] at hK ⊢
    clear h1
    refine ite_yes (by rfl) ?_
    go_simp
    exact hK _ _ _ rfl (Grew.refl _) rfl
  · intro y w2 hG hD K hK
    simp only [depsH, List.getD_cons_zero, List.getD_cons_succ, Is, and_true] at hD
    have h2 := hD
    clear hD
    simp only [fillL, Act.put, List.setIfInBounds_toArray, List.set_cons_zero, List.set_cons_succ, List.getD_cons_zero, List.getD_cons_succ, Is] at hK ⊢
    rw [h2] at hK ⊢
    clear h2
    refine ite_yes (by rfl) ?_
    go_simp
    exact hK _ _ _ rfl (Grew.refl _) rfl
  · intro y w2 hG hD K hK
    simp only [depsH, List.getD_cons_zero, List.getD_cons_succ, Is, and_true] at hD
    have h2 := hD.1
    have h3 := hD.2
    clear hD
    simp only [fillL, Act.put, List.setIfInBounds_toArray, List.set_cons_zero, List.set_cons_succ, List.getD_cons_zero, List.getD_cons_succ, Is] at hK ⊢
    rw [h2, h3] at hK ⊢
    clear h2 h3
    refine ite_yes (by rfl) ?_
    go_simp
    exact hK _ _ _ rfl (Grew.refl _) rfl
  · intro y w2 hG hD K hK
    simp only [depsH, List.getD_cons_zero, List.getD_cons_succ, Is, and_true] at hD
    have h2 := hD.1
    have h4 := hD.2
    clear hD
    simp only [fillL, Act.put, List.setIfInBounds_toArray, List.set_cons_zero, List.set_cons_succ, List.getD_cons_zero, List.getD_cons_succ, Is] at hK ⊢
    rw [h2, h4] at hK ⊢
    clear h2 h4
    refine ite_yes (by rfl) ?_
    go_simp
    exact hK _ _ _ rfl (Grew.refl _) rfl
  · intro y w2 hG hD K hK
    simp only [depsH, List.getD_cons_zero, List.getD_cons_succ, Is, and_true] at hD
    have h5 := hD
    clear hD
    simp only [fillL, Act.put, List.setIfInBounds_toArray, List.set_cons_zero, List.set_cons_succ, List.getD_cons_zero, List.getD_cons_succ, Is] at hK ⊢
    rw [h5] at hK ⊢
    clear h5
    refine ite_yes (by rfl) ?_
    go_simp
    exact hK _ _ _ rfl (Grew.refl _) rfl
  · intro y w2 hG hD K hK
    simp only [depsH, List.getD_cons_zero, List.getD_cons_succ, Is, and_true] at hD
    have h6 := hD
    clear hD
    simp only [fillL, Act.put, List.setIfInBounds_toArray, List.set_cons_zero, List.set_cons_succ, List.getD_cons_zero, List.getD_cons_succ, Is] at hK ⊢
    rw [h6] at hK ⊢
    clear h6
    refine ite_yes (by rfl) ?_
    go_simp
    exact hK _ _ _ rfl (Grew.refl _) rfl
  · intro y w2 hG hD K hK
    simp only [depsH, List.getD_cons_zero, List.getD_cons_succ, Is, and_true] at hD
    have h6 := hD.1
    have h7 := hD.2
    clear hD
    have dc0 := hG.cell c0
    simp only [fillL, Act.put, List.setIfInBounds_toArray, List.set_cons_zero, List.set_cons_succ, List.getD_cons_zero, List.getD_cons_succ, Is] at hK ⊢
    rw [h6, h7] at hK ⊢
    clear h6 h7
    refine ite_yes (by rfl) ?_
    go_simp
    exact hK _ _ _ rfl (Grew.refl _) rfl
  · intro y w2 hG hD K hK
    simp only [depsH, List.getD_cons_zero, List.getD_cons_succ, Is, and_true] at hD
    have h6 := hD.1
    have h8 := hD.2
    clear hD
    simp only [fillL, Act.put, List.setIfInBounds_toArray, List.set_cons_zero, List.set_cons_succ, List.getD_cons_zero, List.getD_cons_succ, Is] at hK ⊢
    rw [h6, h8] at hK ⊢
    clear h6 h8
    refine ite_yes (by rfl) ?_
    go_simp
    exact hK _ _ _ rfl (Grew.refl _) rfl
  · intro y w2 hG hD K hK
    simp only [depsH, List.getD_cons_zero, List.getD_cons_succ, Is, and_true] at hD
    have h6 := hD.1
    have h9 := hD.2
    clear hD
    simp only [fillL, Act.put, List.setIfInBounds_toArray, List.set_cons_zero, List.set_cons_succ, List.getD_cons_zero, List.getD_cons_succ, Is] at hK ⊢
    rw [h6, h9] at hK ⊢
    clear h6 h9
    refine ite_yes (by rfl) ?_
    go_simp
    exact hK _ _ _ rfl (Grew.refl _) rfl
  · intro y w2 hG hD K hK
    simp only [depsH, List.getD_cons_zero, List.getD_cons_succ, Is, and_true] at hD
    have h10 := hD
    clear hD
    simp only [fillL, Act.put, List.setIfInBounds_toArray, List.set_cons_zero, List.set_cons_succ, List.getD_cons_zero, List.getD_cons_succ, Is] at hK ⊢
    rw [h10] at hK ⊢
    clear h10
    refine ite_yes (by rfl) ?_
    go_simp
    exact hK _ _ _ rfl (Grew.refl _) rfl
  · intro y w2 hG hD K hK
    simp only [depsH, List.getD_cons_zero, List.getD_cons_succ, Is, and_true] at hD
    have h11 := hD
    clear hD
    simp only [fillL, Act.put, List.setIfInBounds_toArray, List.set_cons_zero, List.set_cons_succ, List.getD_cons_zero, List.getD_cons_succ, Is] at hK ⊢
    rw [h11] at hK ⊢
    clear h11
    refine ite_yes (by rfl) ?_
    go_simp
    exact hK _ _ _ rfl (Grew.refl _) rfl
  · intro y w2 hG hD K hK
    simp only [depsH, List.getD_cons_zero, List.getD_cons_succ, Is, and_true] at hD
    have h11 := hD.1
    have h12 := hD.2
    clear hD
    simp only [fillL, Act.put, List.setIfInBounds_toArray, List.set_cons_zero, List.set_cons_succ, List.getD_cons_zero, List.getD_cons_succ, Is] at hK ⊢
    rw [h11, h12] at hK ⊢
    clear h11 h12
    refine ite_yes (by rfl) ?_
    go_simp
    exact hK _ _ _ rfl (Grew.refl _) rfl
  · intro y w2 hG hD K hK
    simp only [depsH, List.getD_cons_zero, List.getD_cons_succ, Is, and_true] at hD
    have h11 := hD
    clear hD
    simp only [fillL, Act.put, List.setIfInBounds_toArray, List.set_cons_zero, List.set_cons_succ, List.getD_cons_zero, List.getD_cons_succ, Is] at hK ⊢
    rw [h11] at hK ⊢
    clear h11
    refine ite_yes (by rfl) ?_
    go_simp
    exact hK _ _ _ rfl (Grew.refl _) rfl
  · intro y w2 hG hD K hK
    simp only [depsH, List.getD_cons_zero, List.getD_cons_succ, Is, and_true] at hD
    have h11 := hD.1
    have h13 := hD.2.1
    have h14 := hD.2.2
    clear hD
    simp only [fillL, Act.put, List.setIfInBounds_toArray, List.set_cons_zero, List.set_cons_succ, List.getD_cons_zero, List.getD_cons_succ, Is] at hK ⊢
    rw [h11, h13, h14] at hK ⊢
    clear h11 h13 h14
    refine ite_yes (by rfl) ?_
    go_simp
    exact hK _ _ _ rfl (Grew.refl _) (congrArg Value.bool (decide_eq_false (by omega)))
  · intro y w2 hG hD K hK
    simp only [depsH, List.getD_cons_zero, List.getD_cons_succ, Is, and_true] at hD
    have h11 := hD.1
    have h15 := hD.2
    clear hD
    simp only [fillL, Act.put, List.setIfInBounds_toArray, List.set_cons_zero, List.set_cons_succ, List.getD_cons_zero, List.getD_cons_succ, Is] at hK ⊢
    rw [h11, h15] at hK ⊢
    clear h11 h15
    refine ite_yes (by rfl) ?_
    go_simp
    exact hK _ _ _ rfl (Grew.refl _) rfl
  · intro y w2 hG hD K hK
    simp only [depsH, List.getD_cons_zero, List.getD_cons_succ, Is, and_true] at hD
    have h16 := hD
    clear hD
    simp only [fillL, Act.put, List.setIfInBounds_toArray, List.set_cons_zero, List.set_cons_succ, List.getD_cons_zero, List.getD_cons_succ, Is] at hK ⊢
    rw [h16] at hK ⊢
    clear h16
    refine ite_yes (by rfl) ?_
    go_simp
    exact hK _ _ _ rfl (Grew.refl _) rfl
  · intro y w2 hG hD K hK
    simp only [depsH, List.getD_cons_zero, List.getD_cons_succ, Is, and_true] at hD
    have h17 := hD
    clear hD
    simp only [fillL, Act.put, List.setIfInBounds_toArray, List.set_cons_zero, List.set_cons_succ, List.getD_cons_zero, List.getD_cons_succ, Is] at hK ⊢
    rw [h17] at hK ⊢
    clear h17
    refine ite_yes (by rfl) ?_
    go_simp
    exact hK _ _ _ rfl (Grew.refl _) rfl
  · intro y w2 hG hD K hK
    simp only [depsH, List.getD_cons_zero, List.getD_cons_succ, Is, and_true] at hD
    have h17 := hD
    clear hD
    simp only [fillL, Act.put, List.setIfInBounds_toArray, List.set_cons_zero, List.set_cons_succ, List.getD_cons_zero, List.getD_cons_succ, Is] at hK ⊢
    rw [h17] at hK ⊢
    clear h17
    refine ite_yes (by rfl) ?_
    go_simp
    exact hK _ _ _ rfl (Grew.refl _) rfl
  · intro y w2 hG hD K hK
    simp only [depsH, List.getD_cons_zero, List.getD_cons_succ, Is, and_true] at hD
    have h17 := hD.1
    have h18 := hD.2.1
    have h19 := hD.2.2
    clear hD
    simp only [fillL, Act.put, List.setIfInBounds_toArray, List.set_cons_zero, List.set_cons_succ, List.getD_cons_zero, List.getD_cons_succ, Is] at hK ⊢
    rw [h17, h18, h19] at hK ⊢
    clear h17 h18 h19
    refine ite_yes (by rfl) ?_
    go_simp
    exact hK _ _ _ rfl (Grew.refl _) rfl
  · intro y w2 hG hD K hK
    simp only [depsH, List.getD_cons_zero, List.getD_cons_succ, Is, and_true] at hD
    have h17 := hD
    clear hD
    simp only [fillL, Act.put, List.setIfInBounds_toArray, List.set_cons_zero, List.set_cons_succ, List.getD_cons_zero, List.getD_cons_succ, Is] at hK ⊢
    rw [h17] at hK ⊢
    clear h17
    refine ite_yes (by rfl) ?_
    go_simp
    exact hK _ _ _ rfl (Grew.refl _) rfl
  · intro y w2 hG hD K hK
    simp only [depsH, List.getD_cons_zero, List.getD_cons_succ, Is, and_true] at hD
    have h17 := hD.1
    have h21 := hD.2
    clear hD
    simp only [fillL, Act.put, List.setIfInBounds_toArray, List.set_cons_zero, List.set_cons_succ, List.getD_cons_zero, List.getD_cons_succ, Is] at hK ⊢
    rw [h17, h21] at hK ⊢
    clear h17 h21
    refine ite_yes (by rfl) ?_
    refine wp_make_zeros _ _ _ rfl n rfl rfl (by omega) ?_
    intro v w3 hv hg
    exact hK _ _ _ rfl hg hv
  · intro y w2 hG hD K hK
    simp only [depsH, List.getD_cons_zero, List.getD_cons_succ, Is, and_true] at hD
    have h17 := hD.1
    have h20 := hD.2.1
    have h22 := hD.2.2
    clear hD
    simp only [fillL, Act.put, List.setIfInBounds_toArray, List.set_cons_zero, List.set_cons_succ, List.getD_cons_zero, List.getD_cons_succ, Is] at hK ⊢
    rw [h17, h20] at hK ⊢
    clear h17 h20
    refine ite_yes (by rfl) ?_
    go_simp
    have hcut := bytes_cut (HVB.out.grew hG) 0 n cb (by omega) (by omega)
    rw [Nat.add_zero, List.drop_zero, HHEAD.out] at hcut
    refine (eqBytes_any _ (y 22) _ _ hcut h22).mono ?_
    rintro r w3 ⟨rfl, rfl⟩
    rw [decide_eq_true (rfl : zeros n = zeros n)]
    exact hK _ _ _ rfl (Grew.refl _) rfl
  · intro y w2 hG hD K hK
    simp only [depsH, List.getD_cons_zero, List.getD_cons_succ, Is, and_true] at hD
    have h17 := hD.1
    have h23 := hD.2
    clear hD
    simp only [fillL, Act.put, List.setIfInBounds_toArray, List.set_cons_zero, List.set_cons_succ, List.getD_cons_zero, List.getD_cons_succ, Is] at hK ⊢
    rw [h17, h23] at hK ⊢
    clear h17 h23
    refine ite_yes (by rfl) ?_
    go_simp
    exact hK _ _ _ rfl (Grew.refl _) rfl
  · intro y w2 hG hD K hK
    simp only [depsH, List.getD_cons_zero, List.getD_cons_succ, Is, and_true] at hD
    have h17 := hD.1
    have h24 := hD.2
    clear hD
    simp only [fillL, Act.put, List.setIfInBounds_toArray, List.set_cons_zero, List.set_cons_succ, List.getD_cons_zero, List.getD_cons_succ, Is] at hK ⊢
    rw [h17, h24] at hK ⊢
    clear h17 h24
    refine ite_yes (by rfl) ?_
    go_simp
    exact hK _ _ _ rfl (Grew.refl _) rfl
  · intro y w2 hG hF
    simp only [factsH, Is, and_true, Nat.reduceAdd] at hF
    have h0 := hF.1
    have h1 := hF.2.1
    have h2 := hF.2.2.1
    have h3 := hF.2.2.2.1
    have h4 := hF.2.2.2.2.1
    have h5 := hF.2.2.2.2.2.1
    have h6 := hF.2.2.2.2.2.2.1
    have h7 := hF.2.2.2.2.2.2.2.1
    have h8 := hF.2.2.2.2.2.2.2.2.1
    have h9 := hF.2.2.2.2.2.2.2.2.2.1
    have h10 := hF.2.2.2.2.2.2.2.2.2.2.1
    have h11 := hF.2.2.2.2.2.2.2.2.2.2.2.1
    have h12 := hF.2.2.2.2.2.2.2.2.2.2.2.2.1
    have h13 := hF.2.2.2.2.2.2.2.2.2.2.2.2.2.1
    have h14 := hF.2.2.2.2.2.2.2.2.2.2.2.2.2.2.1
    have h15 := hF.2.2.2.2.2.2.2.2.2.2.2.2.2.2.2.1
    have h16 := hF.2.2.2.2.2.2.2.2.2.2.2.2.2.2.2.2.1
    have h17 := hF.2.2.2.2.2.2.2.2.2.2.2.2.2.2.2.2.2.1
    have h18 := hF.2.2.2.2.2.2.2.2.2.2.2.2.2.2.2.2.2.2.1
    have h19 := hF.2.2.2.2.2.2.2.2.2.2.2.2.2.2.2.2.2.2.2.1
    have h20 := hF.2.2.2.2.2.2.2.2.2.2.2.2.2.2.2.2.2.2.2.2.1
    have h21 := hF.2.2.2.2.2.2.2.2.2.2.2.2.2.2.2.2.2.2.2.2.2.1
    have h22 := hF.2.2.2.2.2.2.2.2.2.2.2.2.2.2.2.2.2.2.2.2.2.2.1
    have h23 := hF.2.2.2.2.2.2.2.2.2.2.2.2.2.2.2.2.2.2.2.2.2.2.2.1
    have h24 := hF.2.2.2.2.2.2.2.2.2.2.2.2.2.2.2.2.2.2.2.2.2.2.2.2.1
    have h25 := hF.2.2.2.2.2.2.2.2.2.2.2.2.2.2.2.2.2.2.2.2.2.2.2.2.2
    clear hF
    simp only [fillL, Act.put, List.setIfInBounds_toArray, List.set_cons_zero, List.set_cons_succ, List.getD_cons_zero, List.getD_cons_succ, Is]
    rw [h0, h1, h2, h3, h4, h5, h6, h7, h8, h9, h10, h11, h12, h13, h14, h15, h16, h17, h18, h19, h20, h21, h23, h24, h25]
    clear h0 h1 h2 h3 h4 h5 h6 h7 h8 h9 h10 h11 h12 h13 h14 h15 h16 h17 h18 h19 h20 h21 h23 h24 h25
    have HG6 := Lib.hid (HG5.out.trans hG)
    have HVB6 := Lib.hid (HVB.out.grew hG)
    have HV6 := Lib.hid (HV5.out.grew hG)
    replace c1 := hG.cell c1
    replace c2 := hG.cell c2
    have hbl6 := Nat.lt_of_lt_of_le HBL.out hG.size
    clear hG c0 HVB HV5 HG5 HBL HHEAD hXne
    go_wp2_with fail
    go_quiet (fail)
    obtain ⟨hmod, hlo, hhi⟩ := HLOHI.out
    obtain ⟨hx1, hx8⟩ := hxp
    have hx0 : ¬ x = 0 := by omega
    have hmod2 : (p - x).tmod x = 0 := by rw [Int.tmod_eq_emod_of_nonneg (by omega)]; exact hmod
    have hLx : (L.length : Int) * (x + 1) = x * L.length + L.length := by rw [Int.mul_add, Int.mul_comm]; omega
    have hLm0 : 0 ≤ (L.length : Int) * (x + 1) := Int.mul_nonneg (by omega) (by omega)
    have hLm1 : (L.length : Int) * (x + 1) ≤ 2700 := by have := Int.mul_le_mul (show (L.length : Int) ≤ 300 by omega) (show x + 1 ≤ 9 by omega) (by omega) (by omega); omega
    have hLy0 : 0 ≤ (L.length : Int) * x := Int.mul_nonneg (by omega) (by omega)
    have hLy1 : (L.length : Int) * x ≤ 2400 := by have := Int.mul_le_mul (show (L.length : Int) ≤ 300 by omega) (show x ≤ 8 by omega) (by omega) (by omega); omega
    have hLc : (L.length : Int) * x = x * L.length := Int.mul_comm _ _
    have HLC := Lib.hid hLc
    go_wp2_with fail
    refine (load_any _ X (BytesAt.grew HVB6.out ((Grew.refl _).drewN _)) (by omega) (p - x) x (by omega) (by intro ad n' c' e; cases e; exact hbl6)).mono ?_
    rw [HLEN.out]
    rintro r w6 ⟨rfl, hg6⟩
    have HVB7 := Lib.hid (BytesAt.grew HVB6.out (((Grew.refl _).drewN _).trans hg6))
    have HV7 := Lib.hid (HV6.out.grew (((Grew.refl _).drewN _).trans hg6))
    have HG7 : Hid (Grew W w6) := (HG6.out.drewN _).trans hg6
    have hbl7 : bl < w6.heap.size := Nat.lt_of_lt_of_le hbl6 hg6.size
    clear hg6
    have hne : ((X.length : Int) != p + (L.length : Int) * (x + 1)) = false := by have := HXS.out; simp; omega
    clear hLx hLc
    go_wp2_with fail
    clear hmod hmod2 hne hlo hhi hLm0 hLm1
    go_loopw [16] (fun i wr => ∃ k : Nat, k ≤ L.length ∧ i = .int .i64 k ∧ Hid (Grew w6 wr)) (fun i _ => L.length - (intOf i).toNat)
    case atStart => exact ⟨0, Nat.zero_le _, rfl, Grew.refl _⟩
    case round =>
      obtain ⟨k, hk, rfl, HK⟩ := hrel
      by_cases hlt : k < L.length
      · have hkx0 : 0 ≤ (k : Int) * x := Int.mul_nonneg (by omega) (by omega)
        have hkx1 : (k : Int) * x ≤ 2400 := by have := Int.mul_le_mul (show (k : Int) ≤ 300 by omega) (show x ≤ 8 by omega) (by omega) (by omega); omega
        obtain ⟨v, hv⟩ : ∃ v, L[k]? = some v := ⟨_, List.getElem?_eq_getElem hlt⟩
        have hnr := HNR.out v (List.mem_of_getElem? hv)
        have hback := HBACK.out v (List.mem_of_getElem? hv)
        have helem := HHELD.out.elem k v hv
        have htag := HHELD.out.tag rfl k v hv
        have hun := unpack_tag (x := x) HW.out hnr.1
        have hle := HXS.out
        obtain ⟨va', vc', ev, hc⟩ := HV7.out
        cases ev
        obtain ⟨vbl, voff, rfl, d0, d1, d2⟩ := hc k v hv
        have hbytes := bytes_cell HVB7.out _ _ htag
        generalize tagB x v = tb at *
        obtain ⟨ty, wd, vn⟩ := v
        simp only at d0 d1 d2 hun
        have HUN := Lib.hid hun
        have HNV := Lib.hid hnr
        have HBV := Lib.hid hback
        obtain ⟨u, hu⟩ : ∃ u : Int, encN x (p + k * x) (ty, wd, vn) = u := ⟨_, rfl⟩
        rw [hu] at helem
        have HU := Lib.hid hu
        have hload : loadF X (p + (k : Int) * x) x = (u, 0) := by simpa using helem
        have HLD := Lib.hid hload
        have hloadI := loadInt_of hload
        have HLI := Lib.hid hloadI
        have hidx1 : p + L.length * x + k < X.length := by have := HLC.out; omega
        have HBT := Lib.hid (HK.out.cell hbytes)
        clear hc hnr hv hback htag hun hle helem hu hload hloadI hbytes
        replace d0 := HK.out.cell d0
        replace d1 := HK.out.cell d1
        replace d2 := HK.out.cell d2
        go_wp2_with fail
        refine (load_any _ X (BytesAt.grew HVB7.out HK.out) (by omega) (p + (k : Int) * x) x (by omega) (by intro ad n' c' e; cases e; exact Nat.lt_of_lt_of_le hbl7 HK.out.size)).mono ?_
        rw [HLD.out]
        rintro r w8 ⟨rfl, hg8⟩
        have HK8 := Lib.hid (HK.out.trans hg8)
        replace d0 := hg8.cell d0
        replace d1 := hg8.cell d1
        replace d2 := hg8.cell d2
        replace HBT := Lib.hid (hg8.cell HBT.out)
        clear hg8
        go_wp2_with fail
        refine (loadInt_any _ X (BytesAt.grew HVB7.out HK8.out) (by omega) (p + (k : Int) * x) x (by omega) (by intro ad n' c' e; cases e; exact Nat.lt_of_lt_of_le hbl7 HK8.out.size)).mono ?_
        rw [HLI.out]
        rintro r w9 ⟨rfl, hg9⟩
        have HK9 := Lib.hid (HK8.out.trans hg9)
        replace d0 := hg9.cell d0
        replace d1 := hg9.cell d1
        replace d2 := hg9.cell d2
        have hbt := hg9.cell HBT.out
        rw [show (p + (L.length : Int) * x).toNat + k = (p + (L.length : Int) * x + (k : Int)).toNat by omega] at hbt
        clear hg9 HBT
        go_wp2_with fail
        refine (unpack_any tb.toNat _ tb.toNat_lt).mono ?_
        rw [HUN.out]
        rintro r wa ⟨rfl, hga⟩
        have HKA := Lib.hid (HK9.out.trans hga)
        replace d0 := hga.cell d0
        replace d1 := hga.cell d1
        replace d2 := hga.cell d2
        clear hga hbt hidx1
        obtain ⟨vn0, vn1⟩ := HNV.out.2.1
        simp only at vn0 vn1
        rcases HBV.out with ⟨e1, hS⟩ | ⟨e1, hS⟩ | ⟨hi, ne1, ne2, ne26⟩
        · simp only at e1 hS
          subst e1
          have hu : u = lowF vn x := by rw [← HU.out]; exact if_pos inl_1
          rw [← hu] at hS
          rw [if_pos inl_1]
          clear HU HUN HNV HBV hu
          go_wp2
          go_roundw
          case rel => exact ⟨k + 1, by omega, by go_num, HKA.out⟩
          case measure => simp [intOf]; omega
        · simp only at e1 hS
          have hu : u = vn := by
            refine HU.out.symm.trans (Eq.trans ?_ hS)
            rcases e1 with rfl | rfl
            · exact if_pos inl_2
            · exact if_pos inl_26
          subst hu
          have hin : inlineB ty = true := by rcases e1 with rfl | rfl; exact inl_2; exact inl_26
          rw [if_pos hin]
          clear HU HUN HNV HBV hS hin
          rcases e1 with rfl | rfl
          all_goals
            go_wp2
            go_roundw
            case rel => exact ⟨k + 1, by omega, by go_num, HKA.out⟩
            case measure => simp [intOf]; omega
        · simp only at hi ne1 ne2 ne26
          have hn : ¬ inlineB ty = true := by rw [hi]; decide
          have hu : u = p + k * x - vn := by rw [← HU.out]; exact if_neg hn
          have hC : IntKind.u64.wrap (p + (k : Int) * x - u) = vn := by rw [IntKind.wrap_u64]; omega
          rw [if_neg hn]
          clear HU HUN HNV HBV hn hu
          go_wp2_with fail
          refine (Ft.inline_any ty _).mono ?_
          rw [hi]
          rintro r wb ⟨rfl, hgb⟩
          have HKB := Lib.hid (HKA.out.trans hgb)
          replace d0 := hgb.cell d0
          replace d1 := hgb.cell d1
          replace d2 := hgb.cell d2
          clear hgb
          go_wp2
          go_roundw
          case rel => exact ⟨k + 1, by omega, by go_num, HKB.out⟩
          case measure => simp [intOf]; omega
      · have ek : k = L.length := by omega
        subst ek
        have HGF : Hid (Grew W wr) := HG7.out.trans HK.out
        clear HK
        go_wp2
        go_ret
        exact ⟨rfl, HGF.out⟩

set_option maxRecDepth 100000 in
theorem vecReads_row {H : Type} (enc : TypeId × Value → H) (W : World) (base : Nat) (v0 : Value) (d0 : DataW H) (p0 : List MemPlace) (o0 : Value.okWide Try.prog W .any base 3 v0) (k0 : DataW.Trod enc Try.prog W 0 (fun _ => true) true 3 v0 d0 p0) (v1 : Value) (d1 : DataW H) (p1 : List MemPlace) (o1 : Value.okWide Try.prog W .any base 22 v1) (k1 : DataW.Trod enc Try.prog W 0 (fun _ => true) true 22 v1 d1 p1) :
    Calls Try.prog 7 #[v0, v1] W fun e w' => e = .returned (.bool true) ∧ Below W.heap.size W w' := by
  obtain ⟨m, rfl, _, _, _⟩ := open_int Try.underlying3 o0 k0
  obtain ⟨l, hl, hlen, _⟩ := open_Prs o1 k1
  exact vecReads_any m v1 l W hl.pairs hlen

theorem vecReads_own : ownKnob Try.prog.godebug = none := by kernel_rfl
theorem vecReads_laidOut : laidOutB Try.prog = true := by kernel_rfl

set_option maxRecDepth 100000 in
theorem vecReads_lifted (os : Os) (started : os.Started) (H : Type) (enc : TypeId × Value → H) :
    ReturnsInHanded {} Try.checked os 7 .any (Rows.vecReadsSpec.pre6 enc Try.prog Try.f7 Rows.vecReadsRow.domain false) (Rows.vecReadsSpec.post enc Try.prog Try.f7 false true false false) := by
  refine returnsInHanded_of_change (C := Try.checked) vecReads_own started (by kernel_rfl) Try.func7
    (ChangeSpec.witness6 (enc := enc) (C := Try.checked) false ⟨#[], #[.int .i64 0, .slice none 0 0], []⟩ 8 (by kernel_rfl) (by kernel_rfl) (by kernel_rfl) (by kernel_rfl)) ?_
  intro W base args ds gs before hval0 hW hcnd _
  have hval : ∀ (j : Nat) t v, Try.f7.params[j]? = some t → args[j]? = some v → Value.okWide Try.prog W .any base t v := hval0
  have hW' := hW
  obtain ⟨p, q, hA0, hV, rfl, hfz, hnd⟩ := hW
  have hA : DataW.TrodAll enc Try.prog W 0 (fun _ => true) true Try.f7.params.toList args.toList ds p := hA0
  rw [Try.params7] at hA hval
  obtain ⟨v0, vs0, d0, ds0, p0, q0, hargs, rfl, rfl, h0, r0⟩ := trodAll_cons hA
  obtain ⟨v1, vs1, d1, ds1, p1, q1, rfl, rfl, rfl, h1, r1⟩ := trodAll_cons r0
  obtain ⟨rfl, rfl, rfl⟩ := trodAll_nil r1
  obtain rfl : args = #[v0, v1] := by cases args; simp_all
  obtain ⟨rfl, rfl⟩ := trodVars_none hV
  have lt0 : ∀ x ∈ p0, x.block < W.heap.size := by obtain ⟨m, hm⟩ := h0; exact DataW.trod_lt m _ _ _ hm
  have lt1 : ∀ x ∈ p1, x.block < W.heap.size := by obtain ⟨m, hm⟩ := h1; exact DataW.trod_lt m _ _ _ hm
  have hw := vecReads_row enc W base v0 d0 p0 (hval 0 3 v0 rfl rfl) h0 v1 d1 p1 (hval 1 22 v1 rfl rfl) h1
  clear hA0 hval0
  refine hw.mono fun e W' ⟨he, bel⟩ => ?_
  subst he
  exact ⟨_, rfl, _, _, _, [], _, [], hW', trodAll_mk1 (shut_bool Try.underlying4 _), (trodAll_cons_mk (Below.trod vecReads_laidOut (by kernel_rfl) (of_decide_eq_true (by kernel_rfl)) h0 bel lt0) (trodAll_cons_mk (Below.trod vecReads_laidOut (by kernel_rfl) (of_decide_eq_true (by kernel_rfl)) h1 bel lt1) trodAll_mk0)), rfl, Below.frame bel _, fun h => by cases h⟩

/-- The statement. -/
theorem vecReads_holds : Rows.VecReadsSaid :=
  OpenClaim.holds_of_wide 7 Try.f7 rfl rfl rfl rfl rfl rfl rfl ⟨rfl, rfl, rfl, rfl, rfl⟩ rfl rfl rfl rfl rfl (by kernel_rfl) Try.func7 (by kernel_rfl)
    (of_decide_eq_true (by kernel_rfl)) (by unfold Func.isWrapper; first | (rw [if_pos (by decide +kernel)]; kernel_rfl) | (rw [if_neg (by decide +kernel)]; exact ⟨rfl, rfl⟩))
    (fun os started H enc _ => vecReads_lifted os started H enc)
end Go.Proofs.Ytaoflhddcbmacaa
