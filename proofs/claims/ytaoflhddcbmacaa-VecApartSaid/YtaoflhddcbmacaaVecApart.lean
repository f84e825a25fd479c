/-
  VecApart: two vectors do not overlap, and the second can hold the first. Conditions: none beyond the statement's own.
-/
import Derived.Test.YtaoflhddcbmacaaVecApartT
namespace Go.Proofs.Ytaoflhddcbmacaa
open Go Go.ChangeShapes Go.WideShapes Go.ChangeAt Go.RowKit Go.Joins Go.Deep
open Go.Proofs.Ytaoflhddcbmacaa.Ft (V3 vV okV ValsAt inlineB legalB packF codeF typedF allF)
set_option linter.unusedVariables false
set_option linter.unusedSimpArgs false

theorem bytes_formA {w : World} {v : Value} {X : List UInt8} (h : BytesAt w v X) (hX : 0 < X.length) : ∃ bl off c, v = .slice (some ⟨bl, off, none⟩) X.length c ∧ X.length ≤ c ∧ bl < w.heap.size := by
  obtain ⟨a, c, rfl, hc, _, hcell⟩ := h
  obtain ⟨bl, off, rfl, h0⟩ := hcell 0 X[0] (List.getElem?_eq_getElem hX)
  exact ⟨bl, off, c, rfl, hc, World.block_lt_of_cell? w _ h0⟩
/-- A value of the law at 3 is neither the empty one nor one that points far. -/
theorem vals_not (l : List (Int × Int)) (z : V3) (hz : z.1 = 10) (hz2 : 3 ≤ z.2.2) : ∀ u ∈ valsF l 3, u ≠ (0, 0, 0) ∧ u ≠ z := by
  intro u hu
  obtain ⟨y, _, rfl⟩ := List.mem_map.1 hu
  unfold valF
  have h0 : 0 ≤ y.2 % 1099511627776 := by omega
  have h1 : y.2 % 1099511627776 < 1099511627776 := by omega
  generalize y.2 % 1099511627776 = n at *
  rcases valN_cases (y.1 % 6) n 3 h0 h1 (by omega) with h | h | h | h | ⟨t, w, u, h, hl, hi, hww, hu0, hu1⟩
  · rw [h]; exact ⟨fun e => absurd (congrArg (fun q : V3 => q.1) e) (by simp), fun e => absurd ((congrArg (fun q : V3 => q.1) e).trans hz) (by simp)⟩
  · rw [h]; exact ⟨fun e => absurd (congrArg (fun q : V3 => q.1) e) (by simp), fun e => absurd ((congrArg (fun q : V3 => q.1) e).trans hz) (by simp)⟩
  · rw [h]; exact ⟨fun e => absurd (congrArg (fun q : V3 => q.1) e) (by simp), fun e => absurd ((congrArg (fun q : V3 => q.1) e).trans hz) (by simp)⟩
  · rw [h]; exact ⟨fun e => absurd (congrArg (fun q : V3 => q.1) e) (by simp), fun e => absurd ((congrArg (fun q : V3 => q.1) e).trans hz) (by simp)⟩
  · rw [h]
    refine ⟨fun e => ?_, fun e => ?_⟩
    · injection e with e1 e2
      subst e1
      exact absurd hi (by decide)
    · rw [← e] at hz2
      have : 3 ≤ u := hz2
      omega
theorem reach_below {S : Nat → Prop} {w0 w4 w2 : World} (hG : Reach2 S w4.heap.size w4 w2) (hb : Below w0.heap.size w0 w4) (hS : ∀ k, S k → w0.heap.size ≤ k) : Below w0.heap.size w0 w2 :=
  Below.trans hb ⟨hG.os, hG.tape, hG.output, hG.size, fun k hk => hG.block k (Nat.lt_of_lt_of_le hk hb.size) (Nat.lt_of_lt_of_le hk hb.size) (fun hs => by have := hS k hs; omega)⟩
theorem told_row {w : World} {g : Nat} {z : V3} (h : w.heap[g]? = some Z0 ∨ w.heap[g]? = some (rowV z)) : ∃ a b c : Value, w.heap[g]? = some (.cells #[a, b, c] 28 (0, 0)) := by
  rcases h with h | h
  · exact ⟨_, _, _, h⟩
  · exact ⟨_, _, _, h⟩
theorem told_step {S : Nat → Prop} {B0 : Nat} {z : V3} {w : World} {g : Nat} {a b c : Value} (hg : B0 ≤ g) (hc : w.heap[g]? = some Z0 ∨ w.heap[g]? = some (rowV z)) (hrow : w.heap[g]? = some (.cells #[a, b, c] 28 (0, 0))) :
    stepT S B0 (rowV z) 11 w (((w.setCell ⟨g, 0, none⟩ (.int .i64 z.1)).setCell ⟨g, 1, none⟩ (.int .i64 z.2.1)).setCell ⟨g, 2, none⟩ (.int .u64 z.2.2)) := by
  refine .inr ⟨g, hg, hc, ?_, heap_store3 hrow _ _ _⟩
  exact Moved.setCell (S := fun k => k = g) (p := ⟨g, 2, none⟩) (Moved.setCell (S := fun k => k = g) (p := ⟨g, 1, none⟩) (Moved.setCell (S := fun k => k = g) (p := ⟨g, 0, none⟩) (Moved.refl _ w) (fun _ => rfl) _) (fun _ => rfl) _) (fun _ => rfl) _
set_option maxRecDepth 100000 in
set_option maxHeartbeats 8000000 in
theorem vecApart_any (lv mv : Value) (l m : List (Int × Int)) (W : World) (hpl : PairsAt W lv l) (hpm : PairsAt W mv m) (hll : l.length ≤ 9223372036854775807) (hlm : m.length ≤ 9223372036854775807) (hcl : ∀ ad n c, lv = .slice ad n c → n ≤ c) (hcm : ∀ ad n c, mv = .slice ad n c → n ≤ c) :
    Calls Try.prog 6 #[lv, mv] W fun r w' => r = .returned (.bool true) ∧ Below W.heap.size W w' := by
  have HPL0 := Lib.hid hpl
  have HPM0 := Lib.hid hpm
  obtain ⟨la, lc, rfl, h⟩ := hpl
  clear h
  obtain ⟨lm, cm, rfl, h⟩ := hpm
  clear h
  have hc1 := hcl la l.length lc rfl
  have hc2 := hcm lm m.length cm rfl
  clear hcl hcm
  obtain ⟨k1, hk1⟩ : ∃ k : Nat, min l.length 100 = k := ⟨_, rfl⟩
  obtain ⟨k2, hk2⟩ : ∃ k : Nat, min m.length 100 = k := ⟨_, rfl⟩
  have HPL : Hid (∀ c2, PairsAt W (.slice la k1 c2) (l.take k1)) := fun c2 => HPL0.out.cut k1 (by omega) c2
  have HPM : Hid (∀ c2, PairsAt W (.slice lm k2 c2) (m.take k2)) := fun c2 => HPM0.out.cut k2 (by omega) c2
  have hL1 : (l.take k1).length ≤ 100 := by rw [List.length_take]; omega
  have hL2 : (m.take k2).length ≤ 100 := by rw [List.length_take]; omega
  have hk1' : k1 ≤ 100 := by omega
  have hk2' : k2 ≤ 100 := by omega
  have hkl : k1 ≤ l.length := by omega
  have hkm : k2 ≤ m.length := by omega
  have HK := Lib.hid (And.intro hk1 hk2)
  clear hk1 hk2
  have hr1 : min (l.length : Int) 100 = (k1 : Int) := by have := HK.out; omega
  have hr2 : min (m.length : Int) 100 = (k2 : Int) := by have := HK.out; omega
  have HRR := Lib.hid (And.intro hr1 hr2)
  clear hr1 hr2
  go_enter Try.func6, Try.ntmps6
  go_wp2_with fail
  go_quiet (fail)
  rw [HRR.out.1, HRR.out.2, Int.toNat_natCast, Int.toNat_natCast]
  generalize hWd : W.drewN _ = Wd
  have HGd : Hid (Grew W Wd) := by subst hWd; exact (Grew.refl W).drewN _
  clear hWd
  go_wp2_with fail
  have hf1 : Calls Try.prog 11 #[.int .i64 1048576, .int .i64 3] Wd fun r w' => r = .returned (bptr Wd.heap.size) ∧ Live Wd w' Wd.heap.size (roomOf 1048576) (putS (roomOf 1048576) (zeros 3) ([], 0)) := filled_any 1048576 3 Wd (by omega)
  rw [roomOf_big, filled_big 3 (by omega)] at hf1
  refine hf1.mono ?_
  rintro r w1 ⟨rfl, hl⟩
  have HL1 := Lib.hid hl
  clear hl hf1
  go_wp2_with fail
  refine (values_any 3 _ _ _ ((HPL.out lc).grew (HGd.out.trans HL1.out.below)) (by omega) (by omega) (by omega)).mono ?_
  rintro r w2 ⟨vv, rfl, hown, hg⟩
  have HO := Lib.hid hown
  have HG2 := Lib.hid hg
  obtain ⟨va, vc, rfl, _⟩ := own_form hown
  have HNR : Hid (∀ v ∈ valsF (l.take k1) 3, Near 3 v) := near_vals _ 3 (by omega) (by omega)
  have hl3 : (valsF (l.take k1) 3).length ≤ 100 := by rw [valsF_length]; omega
  generalize valsF (l.take k1) 3 = L at *
  clear hown hg
  obtain ⟨x1, hx⟩ : ∃ x, allF L (0, 0, 0) 3 1 = x := ⟨_, rfl⟩
  obtain ⟨_, _, hw, _⟩ := allF_near (n := 3) (ahead := 1) (.inr rfl) (by omega) (by omega) (by omega) HNR.out
  rw [hx] at hw
  have e3 : ((zeros 3).length : Int) = 3 := rfl
  have hNZ : ∀ v ∈ L, Near (zeros 3).length v := by rw [e3]; exact HNR.out
  have hzl : (zeros 3).length = 3 := rfl
  have hq := putF_ok (most := 1048576) (T := legalE) (len := true) (tagged := true) (kind := 10) (b := zeros 3) (l := L) (x := x1) (legal_vals HNR.out) (by omega) (by omega) hNZ (by rw [e3, if_pos rfl]; exact hx) (by have := lenOf_le hw true true (zeros 3) L; omega)
  obtain ⟨p1, hpp⟩ : ∃ p : Int, ((zeros 3).length : Int) + padN (zeros 3) x1 + x1 = p := ⟨_, rfl⟩
  rw [if_pos rfl, hpp] at hq
  have hpad := padN_lt (l := zeros 3) hw
  have hxp := isW_pos hw
  have hp0 : 4 ≤ p1 := by rw [← hpp, e3]; omega
  have hp1 : p1 ≤ 1000 := by rw [← hpp, e3]; omega
  have hpl := length_pieces hw true true (zeros 3) L
  have hmin := lenOf_le hw true true (zeros 3) L
  obtain ⟨X1, hX⟩ : ∃ X, zeros 3 ++ (pieces x1 true true (zeros 3) L).flatten = X := ⟨_, rfl⟩
  have hX1l : (X1.length : Int) = lenOf x1 true true (zeros 3) L := by rw [← hX, List.length_append]; omega
  rw [hX] at hq
  have hX1m : (X1.length : Int) ≤ 1000 := by omega
  have hX1p : p1 ≤ (X1.length : Int) := by
    have h0 : 0 ≤ x1 * (L.length : Int) := Int.mul_nonneg (by omega) (by omega)
    unfold lenOf at hX1l
    simp only [if_true] at hX1l
    omega
  have HQ := Lib.hid hq
  have HW1 := Lib.hid hw
  clear hq hpl hmin hpp hpad hX hX1l hNZ hx hzl e3
  go_wp2_with fail
  obtain ⟨o, hb, hbel, h3, h4⟩ := HL1.out
  refine (put_fresh (zeros 3, 0) _ L hb hbel.size HO.out HG2.out h3 h4 (by omega) (okV_vals HNR.out) rfl).mono ?_
  rw [HQ.out]
  rintro r w3 ⟨rfl, ht⟩
  rw [show putV ((10, x1, p1), 0) = .tuple #[.agg #[.int .i64 10, .int .i64 x1, .int .u64 p1], .int .i64 0] from rfl]
  have HL3 := Lib.hid (Live.turn (s' := (X1, 0)) (hb.grew HG2.out) (Below.trans hbel (Below.mono HG2.out hbel.size)) ht (by show (X1.length : Int) ≤ 1048576; omega) h4)
  clear ht hb hbel h3 h4 HL1 HO HG2 HQ hw
  go_wp2_with fail
  have hr3 := heap_alloc_new w3 (.cells #[.int .i64 10, .int .i64 x1, .int .u64 p1] 28)
  have hg3 := (Grew.refl w3).alloc (.cells #[.int .i64 10, .int .i64 x1, .int .u64 p1] 28)
  have hlt3 := (Array.getElem?_eq_some_iff.1 hr3).1
  generalize (w3.alloc (.cells #[.int .i64 10, .int .i64 x1, .int .u64 p1] 28)) = w4 at *
  have HL4 := Lib.hid (HL3.out.grew hg3)
  have HR4 := Lib.hid hr3
  have HLT := Lib.hid hlt3
  clear hr3 hg3 hlt3 HL3
  refine (lenL HL4.out).mono ?_
  rintro r w' ⟨rfl, e⟩
  rw [e]
  clear e w'
  obtain ⟨o, hb, hbel, h3, h4⟩ := HL4.out
  -- the second vector
  have HNM : Hid (∀ v ∈ valsF (m.take k2) 3, Near 3 v) := near_vals _ 3 (by omega) (by omega)
  have hm3 : (valsF (m.take k2) 3).length ≤ 100 := by rw [valsF_length]; omega
  have HNE : Hid (∀ z : V3, z.1 = 10 → 3 ≤ z.2.2 → ∀ u ∈ valsF (m.take k2) 3, u ≠ (0, 0, 0) ∧ u ≠ z) := fun z => vals_not _ z
  obtain ⟨M, hM⟩ : ∃ M, valsF (m.take k2) 3 = M := ⟨_, rfl⟩
  rw [hM] at HNM hm3 HNE
  have HM := Lib.hid hM
  clear hM
  have HN2 : Hid (∀ v ∈ (10, x1, p1) :: M, Near X1.length v) := by
    intro v hv
    rcases List.mem_cons.1 hv with rfl | hv
    · exact near_vec HW1.out (by omega) hX1p (by omega)
    · exact near_mono (HNM.out v hv) (by omega)
  have hL2l : ((10, x1, p1) :: M).length ≤ 101 := by rw [List.length_cons]; omega
  obtain ⟨x2, hx2⟩ : ∃ x, allF ((10, x1, p1) :: M) (0, 0, 0) X1.length 1 = x := ⟨_, rfl⟩
  obtain ⟨_, _, hw2, _⟩ := allF_near (n := X1.length) (ahead := 1) (.inr rfl) (by omega) (by omega) (by omega) HN2.out
  rw [hx2] at hw2
  have hq2 := putF_ok (most := 1048576) (T := legalE) (len := true) (tagged := true) (kind := 10) (b := X1) (l := (10, x1, p1) :: M) (x := x2) (legal_vals HN2.out) (by omega) (by omega) HN2.out (by rw [if_pos rfl]; exact hx2) (by have := lenOf_le hw2 true true X1 ((10, x1, p1) :: M); omega)
  obtain ⟨p2, hpp2⟩ : ∃ p : Int, (X1.length : Int) + padN X1 x2 + x2 = p := ⟨_, rfl⟩
  rw [if_pos rfl, hpp2] at hq2
  have hpad2 := padN_lt (l := X1) hw2
  have hxp2 := isW_pos hw2
  have hp20 : (X1.length : Int) < p2 := by omega
  have hp21 : p2 ≤ 2000 := by omega
  have hp22 : (X1.length : Int) ≤ p2 - x2 := by omega
  obtain ⟨_, hload⟩ := load_elem (by omega) (by omega) HN2.out hx2 hpp2 0 (10, x1, p1) rfl
  rw [show encN x2 (p2 + ((0 : Nat) : Int) * x2) (10, x1, p1) = p2 - p1 by unfold encN; rw [if_neg (by show ¬ inlineB 10 = true; decide)]; simp] at hload
  rw [show p2 + ((0 : Nat) : Int) * x2 = p2 by simp] at hload
  have hpl2 := length_pieces hw2 true true X1 ((10, x1, p1) :: M)
  have hmin2 := lenOf_le hw2 true true X1 ((10, x1, p1) :: M)
  obtain ⟨X2, hX2⟩ : ∃ X, X1 ++ (pieces x2 true true X1 ((10, x1, p1) :: M)).flatten = X := ⟨_, rfl⟩
  have hX2l : (X1.length : Int) ≤ X2.length := by rw [← hX2, List.length_append]; omega
  have hX2m : (X2.length : Int) ≤ 10000 := by rw [← hX2, List.length_append]; omega
  rw [hX2] at hq2 hload
  have HQ2 := Lib.hid hq2
  have HLD := Lib.hid hload
  have HOK2 := Lib.hid (okV_vals HN2.out)
  have HZN : Hid (∀ u ∈ M, u ≠ (0, 0, 0) ∧ u ≠ (10, x2, p2)) := HNE.out (10, x2, p2) rfl (by show 3 ≤ p2; omega)
  have HVN : Hid (rowV (10, x1, p1) ≠ Z0 ∧ rowV (10, x1, p1) ≠ rowV (10, x2, p2)) := ⟨fun e => by injection e with e; simp at e, fun e => by injection e with e; simp at e; omega⟩
  clear hq2 hpl2 hmin2 hpp2 hpad2 hX2 hx2 hw2 hload HNE HNM
  have HB := Lib.hid hb
  have HBEL := Lib.hid hbel
  have hSlt : ∀ k, Own2 Wd.heap.size o k → k < w4.heap.size := hb.lt
  have hSge : ∀ k, Own2 Wd.heap.size o k → Wd.heap.size ≤ k := hb.ge
  have HS := Lib.hid (And.intro hSlt hSge)
  have HH34 := Lib.hid (And.intro h3 h4)
  have HNS : Hid (¬ Own2 Wd.heap.size o w3.heap.size) := hb.not_row HR4.out
  have HZN2 : Hid (∀ u ∈ ((10, x1, p1) : V3) :: M, u ≠ (0, 0, 0) ∧ u ≠ (10, x2, p2)) := by
    intro u hu
    rcases List.mem_cons.1 hu with rfl | hu
    · exact ⟨fun e => by simp at e, fun e => by simp at e; omega⟩
    · exact HZN.out u hu
  clear hb hbel h3 h4 hSlt hSge HL4
  go_wp2_with fail
  refine wp_region_tablesT (Reach2 (Own2 Wd.heap.size o) w4.heap.size) 6 (fun w => BufAt Wd.heap.size w Wd.heap.size o X1 1048576 0) (stepT (Own2 Wd.heap.size o) w4.heap.size (rowV (10, x2, p2))) [[], [], [1], [], [3], [2, 4], [0, 5], [6], [7], [7], [], [8, 10], [9]] [[(37, 1), (38, 2), (39, 3), (40, 4), (41, 5), (35, 7), (43, 8), (44, 9), (9, 10), (10, 12)], [(36, 0), (39, 3), (40, 4), (41, 5), (42, 6), (35, 7), (43, 8), (44, 9), (9, 10), (10, 12)], [(36, 0), (37, 1), (39, 3), (40, 4), (42, 6), (35, 7), (43, 8), (44, 9), (9, 10), (10, 12)], [(36, 0), (37, 1), (38, 2), (41, 5), (42, 6), (35, 7), (43, 8), (44, 9), (9, 10), (10, 12)], [(36, 0), (37, 1), (38, 2), (39, 3), (42, 6), (35, 7), (43, 8), (44, 9), (9, 10), (10, 12)], [(36, 0), (37, 1), (38, 2), (39, 3), (40, 4), (35, 7), (43, 8), (44, 9), (9, 10), (10, 12)], [(36, 0), (37, 1), (38, 2), (39, 3), (40, 4), (41, 5), (43, 8), (44, 9), (9, 10), (10, 12)], [(36, 0), (37, 1), (38, 2), (39, 3), (40, 4), (41, 5), (42, 6), (9, 10), (10, 12)], [(36, 0), (37, 1), (38, 2), (39, 3), (40, 4), (41, 5), (42, 6), (35, 7), (44, 9), (9, 10), (10, 12)], [(36, 0), (37, 1), (38, 2), (39, 3), (40, 4), (41, 5), (42, 6), (35, 7), (43, 8), (9, 10)], [(36, 0), (37, 1), (38, 2), (39, 3), (40, 4), (41, 5), (42, 6), (35, 7), (43, 8), (44, 9), (10, 12)], [(36, 0), (37, 1), (38, 2), (39, 3), (40, 4), (41, 5), (42, 6), (35, 7), (43, 8), (44, 9), (9, 10), (10, 12)], [(36, 0), (37, 1), (38, 2), (39, 3), (40, 4), (41, 5), (42, 6), (35, 7), (43, 8), (44, 9), (9, 10)]] [(36, 0), (37, 1), (38, 2), (39, 3), (40, 4), (41, 5), (42, 6), (35, 7), (43, 8), (44, 9), (9, 10), (10, 12)]
    [fun y v w => v = bptr Wd.heap.size, fun y v w => v = .agg #[.int .i64 10, .int .i64 x1, .int .u64 p1], fun y v w => ∃ g, v = .slice (some ⟨g, 0, none⟩) 1 1 ∧ w4.heap.size ≤ g ∧ w.heap[g]? = some (rowV (10, x1, p1)), fun y v w => v = .slice lm k2 cm, fun y v w => OwnVals w w4.heap.size v M, fun y v w => OwnVals w w4.heap.size v ((10, x1, p1) :: M), fun y v w => v = .tuple #[.agg #[.int .i64 10, .int .i64 x2, .int .u64 p2], .int .i64 0] ∧ Live Wd w Wd.heap.size 1048576 (X2, 0), fun y v w => v = .tuple #[.agg #[.int .i64 10, .int .i64 x2, .int .u64 p2], .int .i64 0], fun y v w => v = .agg #[.int .i64 10, .int .i64 x2, .int .u64 p2], fun y v w => v = .int .i64 0, fun y v w => ∃ g, v = .pointer (some ⟨g, 0, none⟩) ∧ w4.heap.size ≤ g ∧ (w.heap[g]? = some Z0 ∨ w.heap[g]? = some (rowV (10, x2, p2))), fun y v w => ∃ g, y 10 = .pointer (some ⟨g, 0, none⟩) ∧ w4.heap.size ≤ g ∧ w.heap[g]? = some (rowV (10, x2, p2)), fun y v w => v = .int .i64 0]
    (by kernel_rfl) Reach2.trans (Reach2.refl _ _) stepT_reach stepT_refl (fun i hi w w' ht h => stepT_buf hi ht h) (HB.out.grew (Grew.refl _).drew) (Reach2.of_moved (Moved.of_grew (Grew.refl _).drew)) (by kernel_rfl)
    ⟨fun _ _ _ _ _ _ _ h => h, fun _ _ _ _ _ _ _ h => h, fun i _ y v w w' ht h => h.elim fun g h => ⟨g, h.1, h.2.1, stepT_heap ht h.2.2 (fun hs => by have := HS.out.1 g hs; have := h.2.1; omega) HVN.out.1 HVN.out.2⟩, fun _ _ _ _ _ _ _ h => h, fun i _ y v w w' ht h => stepT_own ht HS.out.1 h HZN.out, fun i _ y v w w' ht h => stepT_own ht HS.out.1 h HZN2.out, fun i hi y v w w' ht h => ⟨h.1, stepT_live hi HBEL.out.size ht h.2⟩, fun _ _ _ _ _ _ _ h => h, fun _ _ _ _ _ _ _ h => h, fun _ _ _ _ _ _ _ h => h, fun i _ y v w w' ht h => h.elim fun g h => ⟨g, h.1, h.2.1, stepT_ptr ht HS.out.1 h.2.1 h.2.2⟩, fun i hi y v w w' ht h => h.elim fun g h => ⟨g, h.1, h.2.1, stepT_done hi ht HS.out.1 h.2.1 h.2.2⟩, fun _ _ _ _ _ _ _ h => h, trivial⟩
    ⟨fun _ _ _ _ _ h => h, fun _ _ _ _ _ h => h, fun _ _ _ _ _ h => h, fun _ _ _ _ _ h => h, fun _ _ _ _ _ h => h, fun _ _ _ _ _ h => h, fun _ _ _ _ _ h => h, fun _ _ _ _ _ h => h, fun _ _ _ _ _ h => h, fun _ _ _ _ _ h => h, fun _ _ _ _ _ h => h, fun y y' v w hk h => h.elim fun g h => ⟨g, by rw [← hk 10 (by decide)]; exact h.1, h.2⟩, fun _ _ _ _ _ h => h, trivial⟩
    ⟨?_, ?_, ?_, ?_, ?_, ?_, ?_, ?_, ?_, ?_, ?_, ?_, ?_, trivial⟩ rfl ?_
  · intro y w2 hG hI hD K hK
    clear hI
    simp only [fillL, Act.put, List.setIfInBounds_toArray, List.set_cons_zero, List.set_cons_succ, List.getD_cons_zero, List.getD_cons_succ] at hK ⊢
    refine ite_yes (by rfl) ?_
    go_simp
    exact hK _ _ _ rfl (stepT_grew (by decide) (by decide) (Grew.refl _)) rfl
  · intro y w2 hG hI hD K hK
    clear hI
    simp only [fillL, Act.put, List.setIfInBounds_toArray, List.set_cons_zero, List.set_cons_succ, List.getD_cons_zero, List.getD_cons_succ] at hK ⊢
    refine ite_yes (by rfl) ?_
    have hr := hG.heap HR4.out HLT.out HNS.out
    have c0 := row_cell hr 0 _ rfl
    have c1 := row_cell hr 1 _ rfl
    have c2 := row_cell hr 2 _ rfl
    go_simp
    exact hK _ _ _ rfl (stepT_grew (by decide) (by decide) (Grew.refl _)) rfl
  · intro y w2 hG hI hD K hK
    simp only [depsT, List.getD_cons_zero, List.getD_cons_succ, and_true] at hD
    have h1 := hD
    clear hD
    clear hI
    simp only [fillL, Act.put, List.setIfInBounds_toArray, List.set_cons_zero, List.set_cons_succ, List.getD_cons_zero, List.getD_cons_succ] at hK ⊢
    rw [h1] at hK ⊢
    clear h1
    refine ite_yes (by rfl) ?_
    go_simp
    exact hK _ _ _ rfl (stepT_grew (by decide) (by decide) ((Grew.refl _).alloc _)) ⟨_, rfl, hG.size, heap_alloc_new _ _⟩
  · intro y w2 hG hI hD K hK
    clear hI
    simp only [fillL, Act.put, List.setIfInBounds_toArray, List.set_cons_zero, List.set_cons_succ, List.getD_cons_zero, List.getD_cons_succ] at hK ⊢
    refine ite_yes (by rfl) ?_
    go_simp
    exact hK _ _ _ rfl (stepT_grew (by decide) (by decide) (Grew.refl _)) rfl
  · intro y w2 hG hI hD K hK
    simp only [depsT, List.getD_cons_zero, List.getD_cons_succ, and_true] at hD
    have h3 := hD
    clear hD
    clear hI
    simp only [fillL, Act.put, List.setIfInBounds_toArray, List.set_cons_zero, List.set_cons_succ, List.getD_cons_zero, List.getD_cons_succ] at hK ⊢
    rw [h3] at hK ⊢
    clear h3
    refine ite_yes (by rfl) ?_
    have hgw2 : Grew W w2 := HGd.out.trans (reach_below hG HBEL.out HS.out.2)
    go_simp
    refine (values_any 3 _ _ _ ((HPM.out cm).grew hgw2) (by omega) (by omega) (by omega)).mono ?_
    rw [HM.out]
    rintro r w3' ⟨v', rfl, hown, hg⟩
    exact hK _ _ _ rfl (stepT_grew (by decide) (by decide) hg) (own_base3 hown hG.size)
  · intro y w2 hG hI hD K hK
    simp only [depsT, List.getD_cons_zero, List.getD_cons_succ, and_true] at hD
    have h2 := hD.1
    have h4 := hD.2
    clear hD
    clear hI
    simp only [fillL, Act.put, List.setIfInBounds_toArray, List.set_cons_zero, List.set_cons_succ, List.getD_cons_zero, List.getD_cons_succ] at hK ⊢
    refine ite_yes (by rfl) ?_
    refine Exists.elim h2 fun g h => ?_
    have hs := h.1
    refine wp_append_full _ _ _ rfl g w4.heap.size (10, x1, p1) (y 4) M hs rfl h.2.1 hG.size h.2.2 h4 (by omega) ?_
    intro v' w' hv hg
    exact hK _ _ _ rfl (stepT_grew (by decide) (by decide) hg) hv
  · intro y w2 hG hI hD K hK
    simp only [depsT, List.getD_cons_zero, List.getD_cons_succ, and_true] at hD
    have h0 := hD.1
    have h5 := hD.2
    clear hD
    simp only [fillL, Act.put, List.setIfInBounds_toArray, List.set_cons_zero, List.set_cons_succ, List.getD_cons_zero, List.getD_cons_succ] at hK ⊢
    rw [h0] at hK ⊢
    clear h0
    refine ite_yes (by rfl) ?_
    have hown := h5
    refine Exists.elim (own_form h5) fun fa h => Exists.elim h fun fc h => ?_
    have hs := h.1
    clear h
    rw [hs] at hown hK ⊢
    go_simp
    refine (put_un (X1, 0) _ _ (hI rfl) (Nat.le_trans HBEL.out.size hG.size) HH34.out.1 HH34.out.2 hown.vals (by omega) HOK2.out ?_ rfl).mono ?_
    · intro ad n' c' e
      have hlt := own_lt hown e
      have hge := own_ge hown e
      exact ⟨hlt, fun hq => by have := HS.out.1 _ hq; omega⟩
    rw [HQ2.out]
    rintro r w3' ⟨rfl, ht⟩
    have hbb : Below Wd.heap.size Wd w2 := reach_below hG HBEL.out HS.out.2
    have hlv := Live.turn (s := (X1, 0)) (s' := (X2, 0)) (hI rfl) hbb ht (by show (X2.length : Int) ≤ 1048576; omega) HH34.out.2
    obtain ⟨_, _, _, hm⟩ := ht
    exact hK _ _ _ rfl hm ⟨rfl, hlv⟩
  · intro y w2 hG hI hD K hK
    simp only [depsT, List.getD_cons_zero, List.getD_cons_succ, and_true] at hD
    have h6 := hD
    replace h6 := h6.1
    clear hD
    clear hI
    simp only [fillL, Act.put, List.setIfInBounds_toArray, List.set_cons_zero, List.set_cons_succ, List.getD_cons_zero, List.getD_cons_succ] at hK ⊢
    rw [h6] at hK ⊢
    clear h6
    refine ite_yes (by rfl) ?_
    go_simp
    exact hK _ _ _ rfl (stepT_grew (by decide) (by decide) (Grew.refl _)) rfl
  · intro y w2 hG hI hD K hK
    simp only [depsT, List.getD_cons_zero, List.getD_cons_succ, and_true] at hD
    have h7 := hD
    clear hD
    clear hI
    simp only [fillL, Act.put, List.setIfInBounds_toArray, List.set_cons_zero, List.set_cons_succ, List.getD_cons_zero, List.getD_cons_succ] at hK ⊢
    rw [h7] at hK ⊢
    clear h7
    refine ite_yes (by rfl) ?_
    go_simp
    exact hK _ _ _ rfl (stepT_grew (by decide) (by decide) (Grew.refl _)) rfl
  · intro y w2 hG hI hD K hK
    simp only [depsT, List.getD_cons_zero, List.getD_cons_succ, and_true] at hD
    have h7 := hD
    clear hD
    clear hI
    simp only [fillL, Act.put, List.setIfInBounds_toArray, List.set_cons_zero, List.set_cons_succ, List.getD_cons_zero, List.getD_cons_succ] at hK ⊢
    rw [h7] at hK ⊢
    clear h7
    refine ite_yes (by rfl) ?_
    go_simp
    exact hK _ _ _ rfl (stepT_grew (by decide) (by decide) (Grew.refl _)) rfl
  · intro y w2 hG hI hD K hK
    clear hI
    simp only [fillL, Act.put, List.setIfInBounds_toArray, List.set_cons_zero, List.set_cons_succ, List.getD_cons_zero, List.getD_cons_succ] at hK ⊢
    refine ite_yes (by rfl) ?_
    go_simp
    exact hK _ _ _ rfl (stepT_grew (by decide) (by decide) ((Grew.refl _).alloc _)) ⟨_, rfl, hG.size, .inl (heap_alloc_new _ _)⟩
  · intro y w2 hG hI hD K hK
    simp only [depsT, List.getD_cons_zero, List.getD_cons_succ, and_true] at hD
    have h8 := hD.1
    have h10 := hD.2
    clear hD
    clear hI
    simp only [fillL, Act.put, List.setIfInBounds_toArray, List.set_cons_zero, List.set_cons_succ, List.getD_cons_zero, List.getD_cons_succ] at hK ⊢
    rw [h8] at hK ⊢
    clear h8
    refine ite_yes (by rfl) ?_
    refine Exists.elim h10 fun g h => ?_
    have hs := h.1
    refine Exists.elim (told_row h.2.2) fun c0' h' => Exists.elim h' fun c1' h' => Exists.elim h' fun c2' hrow => ?_
    have f0 := row_frozen hrow 0
    have f1 := row_frozen hrow 1
    have f2 := row_frozen hrow 2
    have c0 := row_cell hrow 0 _ rfl
    have c1 := row_cell hrow 1 _ rfl
    have c2 := row_cell hrow 2 _ rfl
    rw [hs] at hK ⊢
    go_simp
    refine hK _ undef _ rfl (told_step h.2.1 h.2.2 hrow) ⟨g, rfl, h.2.1, heap_store3 hrow _ _ _⟩
  · intro y w2 hG hI hD K hK
    simp only [depsT, List.getD_cons_zero, List.getD_cons_succ, and_true] at hD
    have h9 := hD
    clear hD
    clear hI
    simp only [fillL, Act.put, List.setIfInBounds_toArray, List.set_cons_zero, List.set_cons_succ, List.getD_cons_zero, List.getD_cons_succ] at hK ⊢
    rw [h9] at hK ⊢
    clear h9
    refine ite_yes (by rfl) ?_
    go_simp
    exact hK _ _ _ rfl (stepT_grew (by decide) (by decide) (Grew.refl _)) rfl
  · intro y w2 hG hF
    simp only [factsT, and_true, Nat.reduceAdd] at hF
    have h0 := hF.1
    have h1 := hF.2.1
    have h2 := hF.2.2.1
    have h3 := hF.2.2.2.1
    have h4 := hF.2.2.2.2.1
    have h5 := hF.2.2.2.2.2.1
    have h6 := hF.2.2.2.2.2.2.1
    have h7 := hF.2.2.2.2.2.2.2.1
    have h8 := hF.2.2.2.2.2.2.2.2.1
    have h9 := hF.2.2.2.2.2.2.2.2.2.1
    have h10 := hF.2.2.2.2.2.2.2.2.2.2.1
    have h11 := hF.2.2.2.2.2.2.2.2.2.2.2.1
    have h12 := hF.2.2.2.2.2.2.2.2.2.2.2.2
    clear hF
    simp only [fillL, Act.put, List.setIfInBounds_toArray, List.set_cons_zero, List.set_cons_succ, List.getD_cons_zero, List.getD_cons_succ]
    have HLV := Lib.hid h6.2
    replace h6 := h6.1
    obtain ⟨g2, hg2, hgB, hgz⟩ := h11
    rw [h0, h1, h3, h6, h7, h8, h9, hg2, h12]
    have HRA := Lib.hid (hG.heap HR4.out HLT.out HNS.out)
    have HRB := Lib.hid hgz
    clear h0 h1 h2 h3 h4 h5 h6 h7 h8 h9 h10 h12 hg2 hgz
    go_wp2_with fail
    refine (bytesL HLV.out).mono ?_
    rintro r w5 ⟨vb, rfl, hvb, _, hg5⟩
    replace hvb : BytesAt w5 vb X2 := hvb
    obtain ⟨bl, off, cb, rfl, hcb, hbl⟩ := bytes_formA hvb (by omega)
    have hra := hg5.heap HRA.out
    have hrb := hg5.heap HRB.out
    have c0 := row_cell hra 0 _ rfl
    have c1 := row_cell hra 1 _ rfl
    have c2 := row_cell hra 2 _ rfl
    have d0 := row_cell hrb 0 _ rfl
    have d1 := row_cell hrb 1 _ rfl
    have d2 := row_cell hrb 2 _ rfl
    have HRA5 := Lib.hid hra
    have HRB5 := Lib.hid hrb
    have HVB := Lib.hid hvb
    have HG5 : Hid (Grew W w5) := HGd.out.trans (Grew.trans HLV.out.below hg5)
    clear hvb hg5 hra hrb HRA HRB HLV
    go_wp2_with fail
    refine (load_any _ X2 HVB.out (by omega) p2 x2 (by omega) (by intro ad n' c' e; cases e; exact hbl)).mono ?_
    rw [HLD.out]
    rintro r w6 ⟨rfl, hg6⟩
    have hra := hg6.heap HRA5.out
    have hrb := hg6.heap HRB5.out
    replace c2 := row_cell hra 2 _ rfl
    replace d2 := row_cell hrb 2 _ rfl
    have HG6 : Hid (Grew W w6) := HG5.out.trans hg6
    have hw9 : IntKind.u64.wrap (p2 - (p2 - p1)) = p1 := by rw [IntKind.wrap_u64]; omega
    clear hra hrb hg6 c0 c1 d0 d1
    go_wp2_with fail
    refine (works17_any _).mono ?_
    rintro r w7 ⟨rfl, hg7⟩
    have HG7 : Hid (Grew W w7) := HG6.out.trans hg7
    clear hg7
    go_wp2
    go_ret
    exact ⟨rfl, HG7.out⟩

set_option maxRecDepth 100000 in
theorem vecApart_row {H : Type} (enc : TypeId × Value → H) (W : World) (base : Nat) (v0 : Value) (d0 : DataW H) (p0 : List MemPlace) (o0 : Value.okWide Try.prog W .any base 22 v0) (k0 : DataW.Trod enc Try.prog W 0 (fun _ => true) true 22 v0 d0 p0) (v1 : Value) (d1 : DataW H) (p1 : List MemPlace) (o1 : Value.okWide Try.prog W .any base 22 v1) (k1 : DataW.Trod enc Try.prog W 0 (fun _ => true) true 22 v1 d1 p1) :
    Calls Try.prog 6 #[v0, v1] W fun e w' => e = .returned (.bool true) ∧ Below W.heap.size W w' := by
  obtain ⟨l, hl, hlen, _⟩ := open_Prs o0 k0
  obtain ⟨m, hm, hmen, _⟩ := open_Prs o1 k1
  exact vecApart_any v0 v1 l m W hl.pairs hm.pairs hlen hmen hl.cap hm.cap

theorem vecApart_own : ownKnob Try.prog.godebug = none := by kernel_rfl
theorem vecApart_laidOut : laidOutB Try.prog = true := by kernel_rfl

set_option maxRecDepth 100000 in
theorem vecApart_lifted (os : Os) (started : os.Started) (H : Type) (enc : TypeId × Value → H) :
    ReturnsInHanded {} Try.checked os 6 .any (Rows.vecApartSpec.pre6 enc Try.prog Try.f6 Rows.vecApartRow.domain false) (Rows.vecApartSpec.post enc Try.prog Try.f6 false true false false) := by
  refine returnsInHanded_of_change (C := Try.checked) vecApart_own started (by kernel_rfl) Try.func6
    (ChangeSpec.witness6 (enc := enc) (C := Try.checked) false ⟨#[], #[.slice none 0 0, .slice none 0 0], []⟩ 8 (by kernel_rfl) (by kernel_rfl) (by kernel_rfl) (by kernel_rfl)) ?_
  intro W base args ds gs before hval0 hW hcnd _
  have hval : ∀ (j : Nat) t v, Try.f6.params[j]? = some t → args[j]? = some v → Value.okWide Try.prog W .any base t v := hval0
  have hW' := hW
  obtain ⟨p, q, hA0, hV, rfl, hfz, hnd⟩ := hW
  have hA : DataW.TrodAll enc Try.prog W 0 (fun _ => true) true Try.f6.params.toList args.toList ds p := hA0
  rw [Try.params6] at hA hval
  obtain ⟨v0, vs0, d0, ds0, p0, q0, hargs, rfl, rfl, h0, r0⟩ := trodAll_cons hA
  obtain ⟨v1, vs1, d1, ds1, p1, q1, rfl, rfl, rfl, h1, r1⟩ := trodAll_cons r0
  obtain ⟨rfl, rfl, rfl⟩ := trodAll_nil r1
  obtain rfl : args = #[v0, v1] := by cases args; simp_all
  obtain ⟨rfl, rfl⟩ := trodVars_none hV
  have lt0 : ∀ x ∈ p0, x.block < W.heap.size := by obtain ⟨m, hm⟩ := h0; exact DataW.trod_lt m _ _ _ hm
  have lt1 : ∀ x ∈ p1, x.block < W.heap.size := by obtain ⟨m, hm⟩ := h1; exact DataW.trod_lt m _ _ _ hm
  have hw := vecApart_row enc W base v0 d0 p0 (hval 0 22 v0 rfl rfl) h0 v1 d1 p1 (hval 1 22 v1 rfl rfl) h1
  clear hA0 hval0
  refine hw.mono fun e W' ⟨he, bel⟩ => ?_
  subst he
  exact ⟨_, rfl, _, _, _, [], _, [], hW', trodAll_mk1 (shut_bool Try.underlying4 _), (trodAll_cons_mk (Below.trod vecApart_laidOut (by kernel_rfl) (of_decide_eq_true (by kernel_rfl)) h0 bel lt0) (trodAll_cons_mk (Below.trod vecApart_laidOut (by kernel_rfl) (of_decide_eq_true (by kernel_rfl)) h1 bel lt1) trodAll_mk0)), rfl, Below.frame bel _, fun h => by cases h⟩

/-- The statement. -/
theorem vecApart_holds : Rows.VecApartSaid :=
  OpenClaim.holds_of_wide 6 Try.f6 rfl rfl rfl rfl rfl rfl rfl ⟨rfl, rfl, rfl, rfl, rfl⟩ rfl rfl rfl rfl rfl (by kernel_rfl) Try.func6 (by kernel_rfl)
    (of_decide_eq_true (by kernel_rfl)) (by unfold Func.isWrapper; first | (rw [if_pos (by decide +kernel)]; kernel_rfl) | (rw [if_neg (by decide +kernel)]; exact ⟨rfl, rfl⟩))
    (fun os started H enc _ => vecApart_lifted os started H enc)
end Go.Proofs.Ytaoflhddcbmacaa
