/-
  'NormalParts': equivalent trees have the same normal form, and their nodes are equivalent. Conditions: none beyond the statement's own.
-/
import Derived.Test.YtfbeepkogcmlmaaRows
import Derived.Test.YtfbeepkogcmlmaaPG
import Derived.ProofKit
import Derived.OpenShut
import Derived.ShutString
import Derived.ChangeOld
import Derived.Below
import Derived.Lib.SmallJoins
import Derived.Deep.QuietTactic
import Derived.BigQuiet
import Derived.Deep.CutBlock
import Derived.Deep.DeepCutAuto
namespace Go.Proofs.Ytfbeepkogcmlmaa
open Go Go.ChangeShapes Go.WideShapes Go.ChangeAt Go.RowKit Go.Joins
open Go.ChangeMaps (open_string shut_string)
open Go.Deep
set_option linter.unusedVariables false
set_option linter.unusedSimpArgs false

theorem sorted_sum {w w' : World} {t : Tr} {r : Ending} (h : SortedOut w t r w') : Grew w w' ∧ ∃ (e k n u : Int) (s : ByteArray) (a4 : Option Addr) (n4 c4 : Nat) (a5 : Option Addr) (n5 c5 : Nat), r = .returned (.tuple #[.agg #[.int .i64 k, .int .i64 n, .int .u64 u, .string s, .slice a4 n4 c4, .slice a5 n5 c5], .int .i64 e]) ∧ e = checkE t ∧ (e = 0 → NodeAt w' (sortT t) (.agg #[.int .i64 k, .int .i64 n, .int .u64 u, .string s, .slice a4 n4 c4, .slice a5 n5 c5])) := by
  obtain ⟨hg, ⟨h0, rfl⟩ | ⟨h0, v, S, rfl, ho, hf⟩⟩ := h
  · exact ⟨hg, checkE t, 0, 0, 0, ⟨#[]⟩, none, 0, 0, none, 0, 0, rfl, rfl, fun h => absurd h h0⟩
  · obtain ⟨k, n, u, s, a4, n4, c4, a5, n5, c5, rfl⟩ := ho.node6
    exact ⟨hg, 0, k, n, u, s, a4, n4, c4, a5, n5, c5, rfl, h0.symm, fun _ => ho.node⟩
/-- The law, plain: of two sorted trees. -/
structure PartsP (X Y : Tr) : Prop where
  fx : Few X
  fy : Few Y
  sx : X.size ≤ 120
  sy : Y.size ≤ 120
  cx : checkE X = 0
  cy : checkE Y = 0
  self : alikeP X X
  norm : alikeP (norT X) X
  szn : (norT X).size ≤ 120
  same : alikeP X Y ↔ norT X = norT Y
  comm : alikeP X Y ↔ alikeP Y X
  size : alikeP X Y → Y.size = X.size
  parts : alikeP X Y → ∀ (n : Nat) b c b' d, (preT 0 X)[n]? = some (b, c) → (preT 0 Y)[n]? = some (b', d) → alikeP c d ∧ c.size ≤ 120 ∧ d.size ≤ 120
theorem sub_val {b : Nat} {t : Tr} (h : valT b t) : ∀ p ∈ preT b t, valT p.1 p.2 ∧ p.2.size ≤ t.size := by
  have key : ∀ (m : Nat) (t : Tr) (b : Nat), t.size ≤ m → valT b t → ∀ p ∈ preT b t, valT p.1 p.2 ∧ p.2.size ≤ t.size := by
    intro m
    induction m with
    | zero => intro t b h; have := t.size_pos; omega
    | succ m ih =>
      intro t b hm h p hp
      obtain ⟨k, n, u, s, keys, l⟩ := t
      simp only [preT, List.mem_cons] at hp
      rcases hp with rfl | hp
      · exact ⟨h, Nat.le_refl _⟩
      · obtain ⟨x, hx, hpx⟩ := mem_preL'.1 hp
        have hsz := size_mem hx
        simp only [Tr.size] at hm ⊢
        have := ih x (b + 1) (by omega) (valL_iff.1 h.2.2.2 x hx) p hpx
        exact ⟨this.1, by omega⟩
  exact key t.size t b (Nat.le_refl _) h
theorem sub_srt {t : Tr} (h : srtT t) : ∀ p ∈ preT 0 t, srtT p.2 := by
  have key : ∀ (m : Nat) (t : Tr) (b : Nat), t.size ≤ m → srtT t → ∀ p ∈ preT b t, srtT p.2 := by
    intro m
    induction m with
    | zero => intro t b h; have := t.size_pos; omega
    | succ m ih =>
      intro t b hm h p hp
      obtain ⟨k, n, u, s, keys, l⟩ := t
      have h2 := srt_iff.1 h
      simp only [preT, List.mem_cons] at hp
      rcases hp with rfl | hp
      · exact h
      · obtain ⟨x, hx, hpx⟩ := mem_preL'.1 hp
        have hsz := size_mem hx
        simp only [Tr.size] at hm
        exact ih x (b + 1) (by omega) (h2.2 x hx) p hpx
  exact key t.size t 0 (Nat.le_refl _) h
theorem parts_of (a b : Tr) (ha : a.size ≤ 120) (hb : b.size ≤ 120) (ea : checkE a = 0) (eb : checkE b = 0) : PartsP (sortT a) (sortT b) := by
  have va := check_val.1 ea
  have vb := check_val.1 eb
  have sa := val_sort a.size a 0 (Nat.le_refl _) va.2
  have sb := val_sort b.size b 0 (Nat.le_refl _) vb.2
  have ra := srt_sort a.size a 0 (Nat.le_refl _) va.2
  have rb := srt_sort b.size b 0 (Nat.le_refl _) vb.2
  generalize sortT a = X at *
  generalize sortT b = Y at *
  have szX : X.size ≤ 120 := by rw [sa.2]; exact ha
  have szY : Y.size ≤ 120 := by rw [sb.2]; exact hb
  have hX := sort_srt X.size X 0 (Nat.le_refl _) sa.1 ra
  have hY := sort_srt Y.size Y 0 (Nat.le_refl _) sb.1 rb
  have nX : norT X = ofT X := by unfold norT; rw [hX]
  have nY : norT Y = ofT Y := by unfold norT; rw [hY]
  have oX := of_val X.size X 0 (Nat.le_refl _) sa.1
  have oY := of_val Y.size Y 0 (Nat.le_refl _) sb.1
  have cX : checkE X = 0 := check_val.2 ⟨by omega, sa.1⟩
  have cY : checkE Y = 0 := check_val.2 ⟨by omega, sb.1⟩
  have hPX : sortT (ofT X) = ofT X := sort_srt (ofT X).size (ofT X) 0 (Nat.le_refl _) oX.1 (oX.2.2.2.1 ra)
  refine ⟨few_val _ _ 0 (Nat.le_refl _) (by omega) sa.1, few_val _ _ 0 (Nat.le_refl _) (by omega) sb.1, szX, szY, cX, cY, ⟨cX, cX, rfl⟩, ⟨?_, cX, ?_⟩, by rw [nX, oX.2.1]; exact szX, ⟨fun h => h.2.2, fun h => ⟨cX, cY, h⟩⟩, ⟨fun h => ⟨cY, cX, h.2.2.symm⟩, fun h => ⟨cX, cY, h.2.2.symm⟩⟩, fun h => ?_, fun h n b1 c b2 d hc hd => ?_⟩
  · rw [nX]; exact check_val.2 ⟨by rw [oX.2.1]; omega, oX.1⟩
  · rw [nX]; show ofT (sortT (ofT X)) = ofT X; rw [hPX, oX.2.2.1]
  · have e := h.2.2
    rw [nX, nY] at e
    rw [← oX.2.1, ← oY.2.1, e]
  · have e := h.2.2
    rw [nX, nY] at e
    have e2 : (preT 0 X).map (fun p => (p.1, ofT p.2)) = (preT 0 Y).map (fun p => (p.1, ofT p.2)) := by rw [← oX.2.2.2.2 0, ← oY.2.2.2.2 0, e]
    have e3 := congrArg (fun l => l[n]?) e2
    simp only [List.getElem?_map, hc, hd, Option.map_some] at e3
    have e4 : ofT c = ofT d := by injection e3 with e3; injection e3
    have mc := List.mem_of_getElem? hc
    have md := List.mem_of_getElem? hd
    have vc := sub_val sa.1 _ mc
    have vd := sub_val sb.1 _ md
    have sc : sortT c = c := sort_srt c.size c b1 (Nat.le_refl _) vc.1 (sub_srt ra _ mc)
    have sd : sortT d = d := sort_srt d.size d b2 (Nat.le_refl _) vd.1 (sub_srt rb _ md)
    have zc : c.size ≤ 120 := Nat.le_trans vc.2 szX
    have zd : d.size ≤ 120 := Nat.le_trans vd.2 szY
    refine ⟨⟨check_val.2 ⟨by omega, val_mono (Nat.zero_le _) vc.1⟩, check_val.2 ⟨by omega, val_mono (Nat.zero_le _) vd.1⟩, ?_⟩, zc, zd⟩
    unfold norT; rw [sc, sd, e4]
theorem bool_of {b b' : Bool} {p : Prop} (h : b = true ↔ p) (h' : b' = true ↔ p) : b = b' := by
  cases b <;> cases b' <;> simp_all
theorem bool_iff {b : Bool} {p : Prop} (h : b = true ↔ p) (hp : p) : b = true := h.2 hp
theorem bool_not {b : Bool} {p : Prop} (h : b = true ↔ p) (hp : ¬ p) : b = false := by cases b; rfl; exact absurd (h.1 rfl) hp
set_option maxRecDepth 100000 in
set_option maxHeartbeats 8000000 in
theorem normalParts_row {H : Type} (enc : TypeId × Value → H) (W : World) (base : Nat) (v0 : Value) (d0 : DataW H) (p0 : List MemPlace) (o0 : Value.okWide Try.prog W .any base 26 v0) (k0 : DataW.Trod enc Try.prog W 0 (fun _ => true) true 26 v0 d0 p0) (v1 : Value) (d1 : DataW H) (p1 : List MemPlace) (o1 : Value.okWide Try.prog W .any base 26 v1) (k1 : DataW.Trod enc Try.prog W 0 (fun _ => true) true 26 v1 d1 p1) :
    Calls Try.prog 8 #[v0, v1] W fun e w' => e = .returned (.bool true) ∧ Below W.heap.size W w' := by
  obtain ⟨t0, hn0⟩ := open_node o0 k0
  obtain ⟨t1, hn1⟩ := open_node o1 k1
  have HA := Lib.hid hn0
  have HB := Lib.hid hn1
  obtain ⟨tak, tan, tau, tas, taa4, tan4, tac4, taa5, tan5, tac5, rfl⟩ := hn0.node6
  obtain ⟨tbk, tbn, tbu, tbs, tba4, tbn4, tbc4, tba5, tbn5, tbc5, rfl⟩ := hn1.node6
  clear o0 k0 hn0 o1 k1 hn1
  have HG := Lib.hid (Grew.refl W)
  go_enter Try.func8, Try.ntmps8
  go_upto_region 1 with fail
  obtain ⟨N, hN⟩ : ∃ N, W.heap.size = N := ⟨_, rfl⟩
  have hr1 := heap_alloc_new W (.cells #[.int .i64 tak, .int .i64 tan, .int .u64 tau, .string tas, .slice taa4 tan4 tac4, .slice taa5 tan5 tac5] 26)
  have hg1 := (Grew.refl W).alloc (.cells #[.int .i64 tak, .int .i64 tan, .int .u64 tau, .string tas, .slice taa4 tan4 tac4, .slice taa5 tan5 tac5] 26)
  have hs1 : (W.alloc (.cells #[.int .i64 tak, .int .i64 tan, .int .u64 tau, .string tas, .slice taa4 tan4 tac4, .slice taa5 tan5 tac5] 26)).heap.size = W.heap.size + 1 := World.size_alloc _ _
  generalize (W.alloc (.cells #[.int .i64 tak, .int .i64 tan, .int .u64 tau, .string tas, .slice taa4 tan4 tac4, .slice taa5 tan5 tac5] 26)) = b1 at *
  have hr2 := heap_alloc_new b1 (.cells #[.int .i64 tbk, .int .i64 tbn, .int .u64 tbu, .string tbs, .slice tba4 tbn4 tbc4, .slice tba5 tbn5 tbc5] 26)
  have hga := (Grew.refl b1).alloc (.cells #[.int .i64 tbk, .int .i64 tbn, .int .u64 tbu, .string tbs, .slice tba4 tbn4 tbc4, .slice tba5 tbn5 tbc5] 26)
  generalize (b1.alloc (.cells #[.int .i64 tbk, .int .i64 tbn, .int .u64 tbu, .string tbs, .slice tba4 tbn4 tbc4, .slice tba5 tbn5 tbc5] 26)) = b2 at *
  rw [hs1] at hr2
  rw [hN] at hr1 hr2 ⊢
  have HRA := Lib.hid (hga.heap hr1)
  have HRB := Lib.hid hr2
  replace hga := Grew.trans hg1 hga
  clear hr1 hr2 hs1 hg1 hN
  replace HA := Lib.hid (NodeAt.grew hga HA.out)
  replace HB := Lib.hid (NodeAt.grew hga HB.out)
  replace HG := Lib.hid (HG.out.trans hga)
  clear hga
  go_wp2_with fail
  refine (works09_any b2).mono ?_
  rintro r u1 ⟨rfl, hgc⟩
  replace HA := Lib.hid (NodeAt.grew hgc HA.out)
  replace HB := Lib.hid (NodeAt.grew hgc HB.out)
  replace HRA := Lib.hid (hgc.heap HRA.out)
  replace HRB := Lib.hid (hgc.heap HRB.out)
  replace HG := Lib.hid (HG.out.trans hgc)
  clear hgc
  have c0 := row_cellT HRA.out 0 _ rfl
  have c1 := row_cellT HRA.out 1 _ rfl
  have c2 := row_cellT HRA.out 2 _ rfl
  have c3 := row_cellT HRA.out 3 _ rfl
  have c4 := row_cellT HRA.out 4 _ rfl
  have c5 := row_cellT HRA.out 5 _ rfl
  go_wp2_with fail
  refine (few09_any t0 _ u1 HA.out).mono ?_
  rintro r u2 ⟨va, rfl, hna, hgc⟩
  replace HA := Lib.hid (NodeAt.grew hgc HA.out)
  replace HB := Lib.hid (NodeAt.grew hgc HB.out)
  replace HRA := Lib.hid (hgc.heap HRA.out)
  replace HRB := Lib.hid (hgc.heap HRB.out)
  replace HG := Lib.hid (HG.out.trans hgc)
  clear hgc
  have HNA := Lib.hid hna
  obtain ⟨fk, fn, fu, fs, fa4, fn4, fc4, fa5, fn5, fc5, rfl⟩ := hna.node6
  clear hna
  clear c0 c1 c2 c3 c4 c5
  have hsa := cutT_size t0
  have hsb := cutT_size t1
  have HSA := Lib.hid (And.intro hsa hsb)
  clear hsa hsb
  go_wp2_with fail
  refine (sorted_any (cutT t0) _ u2 HNA.out (by have := HSA.out.1; omega)).mono ?_
  intro r u3 hh
  obtain ⟨hgc, e1, xk, xn, xu, xs, xa4, xn4, xc4, xa5, xn5, xc5, rfl, he1, hx⟩ := sorted_sum hh
  have HE1 := Lib.hid he1
  have HX := Lib.hid hx
  clear hh he1 hx
  clear HNA
  replace HA := Lib.hid (NodeAt.grew hgc HA.out)
  replace HB := Lib.hid (NodeAt.grew hgc HB.out)
  replace HRA := Lib.hid (hgc.heap HRA.out)
  replace HRB := Lib.hid (hgc.heap HRB.out)
  replace HG := Lib.hid (HG.out.trans hgc)
  clear hgc
  go_upto_region 4 with fail
  obtain ⟨px, hpx⟩ : ∃ N, u3.heap.size = N := ⟨_, rfl⟩
  have hr1 := heap_alloc_new u3 (.cells #[.int .i64 xk, .int .i64 xn, .int .u64 xu, .string xs, .slice xa4 xn4 xc4, .slice xa5 xn5 xc5] 26)
  have hga := (Grew.refl u3).alloc (.cells #[.int .i64 xk, .int .i64 xn, .int .u64 xu, .string xs, .slice xa4 xn4 xc4, .slice xa5 xn5 xc5] 26)
  generalize (u3.alloc (.cells #[.int .i64 xk, .int .i64 xn, .int .u64 xu, .string xs, .slice xa4 xn4 xc4, .slice xa5 xn5 xc5] 26)) = x1 at *
  rw [hpx] at hr1 ⊢
  have HVX := Lib.hid hr1
  clear hr1 hpx
  replace HA := Lib.hid (NodeAt.grew hga HA.out)
  replace HB := Lib.hid (NodeAt.grew hga HB.out)
  replace HRA := Lib.hid (hga.heap HRA.out)
  replace HRB := Lib.hid (hga.heap HRB.out)
  replace HX := Lib.hid (fun h => NodeAt.grew hga (HX.out h))
  replace HG := Lib.hid (HG.out.trans hga)
  clear hga
  have c0 := row_cellT HRB.out 0 _ rfl
  have c1 := row_cellT HRB.out 1 _ rfl
  have c2 := row_cellT HRB.out 2 _ rfl
  have c3 := row_cellT HRB.out 3 _ rfl
  have c4 := row_cellT HRB.out 4 _ rfl
  have c5 := row_cellT HRB.out 5 _ rfl
  go_wp2_with fail
  refine (few09_any t1 _ x1 HB.out).mono ?_
  rintro r u4 ⟨vb, rfl, hnb, hgc⟩
  replace HA := Lib.hid (NodeAt.grew hgc HA.out)
  replace HB := Lib.hid (NodeAt.grew hgc HB.out)
  replace HRA := Lib.hid (hgc.heap HRA.out)
  replace HRB := Lib.hid (hgc.heap HRB.out)
  replace HX := Lib.hid (fun h => NodeAt.grew hgc (HX.out h))
  replace HVX := Lib.hid (hgc.heap HVX.out)
  replace HG := Lib.hid (HG.out.trans hgc)
  clear hgc
  have HNB := Lib.hid hnb
  obtain ⟨gk, gn, gu, gs, ga4, gn4, gc4, ga5, gn5, gc5, rfl⟩ := hnb.node6
  clear hnb
  clear c0 c1 c2 c3 c4 c5
  go_wp2_with fail
  refine (sorted_any (cutT t1) _ u4 HNB.out (by have := HSA.out.2; omega)).mono ?_
  intro r u5 hh
  obtain ⟨hgc, e2, yk, yn, yu, ys, ya4, yn4, yc4, ya5, yn5, yc5, rfl, he2, hy⟩ := sorted_sum hh
  have HE2 := Lib.hid he2
  have HY := Lib.hid hy
  clear hh he2 hy HNB
  replace HA := Lib.hid (NodeAt.grew hgc HA.out)
  replace HB := Lib.hid (NodeAt.grew hgc HB.out)
  replace HRA := Lib.hid (hgc.heap HRA.out)
  replace HRB := Lib.hid (hgc.heap HRB.out)
  replace HX := Lib.hid (fun h => NodeAt.grew hgc (HX.out h))
  replace HVX := Lib.hid (hgc.heap HVX.out)
  replace HG := Lib.hid (HG.out.trans hgc)
  clear hgc
  go_upto_region 5 with fail
  obtain ⟨py, hpy⟩ : ∃ N, u5.heap.size = N := ⟨_, rfl⟩
  have hr2 := heap_alloc_new u5 (.cells #[.int .i64 yk, .int .i64 yn, .int .u64 yu, .string ys, .slice ya4 yn4 yc4, .slice ya5 yn5 yc5] 26)
  have hga := (Grew.refl u5).alloc (.cells #[.int .i64 yk, .int .i64 yn, .int .u64 yu, .string ys, .slice ya4 yn4 yc4, .slice ya5 yn5 yc5] 26)
  generalize (u5.alloc (.cells #[.int .i64 yk, .int .i64 yn, .int .u64 yu, .string ys, .slice ya4 yn4 yc4, .slice ya5 yn5 yc5] 26)) = x2 at *
  rw [hpy] at hr2 ⊢
  have HVY := Lib.hid hr2
  clear hr2 hpy
  replace HA := Lib.hid (NodeAt.grew hga HA.out)
  replace HB := Lib.hid (NodeAt.grew hga HB.out)
  replace HRA := Lib.hid (hga.heap HRA.out)
  replace HRB := Lib.hid (hga.heap HRB.out)
  replace HX := Lib.hid (fun h => NodeAt.grew hga (HX.out h))
  replace HVX := Lib.hid (hga.heap HVX.out)
  replace HY := Lib.hid (fun h => NodeAt.grew hga (HY.out h))
  replace HG := Lib.hid (HG.out.trans hga)
  clear hga
  by_cases h1 : e1 = 0
  rotate_left
  · have hb1 : (e1 != 0) = true := by simpa using h1
    have H1 := Lib.hid h1
    clear h1
    go_upto_region 6 with fail
    have c0 := row_cellT HRA.out 0 _ rfl
    have c1 := row_cellT HRA.out 1 _ rfl
    have c2 := row_cellT HRA.out 2 _ rfl
    have c3 := row_cellT HRA.out 3 _ rfl
    have c4 := row_cellT HRA.out 4 _ rfl
    have c5 := row_cellT HRA.out 5 _ rfl
    have d0 := row_cellT HRB.out 0 _ rfl
    have d1 := row_cellT HRB.out 1 _ rfl
    have d2 := row_cellT HRB.out 2 _ rfl
    have d3 := row_cellT HRB.out 3 _ rfl
    have d4 := row_cellT HRB.out 4 _ rfl
    have d5 := row_cellT HRB.out 5 _ rfl
    refine wp_region_tables Grew [[], [0], [], [0, 1, 2], [0, 1, 2, 3], [0, 1, 2, 3, 4], [0, 1, 2, 3, 4, 5]] [[(40, 2)], [(38, 0), (40, 2)], [(38, 0), (39, 1)], [(38, 0), (39, 1), (40, 2)], [(38, 0), (39, 1), (40, 2), (41, 3)], [(38, 0), (39, 1), (40, 2), (41, 3), (42, 4)], [(38, 0), (39, 1), (40, 2), (41, 3), (42, 4), (43, 5)]] [(38, 0), (39, 1), (40, 2), (41, 3), (42, 4), (43, 5), (4, 6)]
      [Is (.agg #[.int .i64 tak, .int .i64 tan, .int .u64 tau, .string tas, .slice taa4 tan4 tac4, .slice taa5 tan5 tac5]), Nd (cutT t0), Is (.agg #[.int .i64 tbk, .int .i64 tbn, .int .u64 tbu, .string tbs, .slice tba4 tbn4 tbc4, .slice tba5 tbn5 tbc5]), Nd (cutT t1), Is (.bool false), Is (.bool true), Is (.bool true)]
      (by kernel_rfl) Grew.trans Grew.refl (Grew.refl _).drew (by kernel_rfl) ⟨is_st, Nd.st _, is_st, Nd.st _, is_st, is_st, is_st, trivial⟩ ?_ rfl ?_
    rotate_left
    · intro y w2 hG hF
      simp only [factsH, Is, and_true, Nat.reduceAdd] at hF
      have hlast := hF.2.2.2.2.2.2
      clear hF
      simp only [fillL, Act.put, List.setIfInBounds_toArray, List.set_cons_zero, List.set_cons_succ, List.getD_cons_zero, List.getD_cons_succ, hlast]
      replace HG := Lib.hid (HG.out.trans hG)
      clear hG hlast
      go_wp2_with fail
      go_ret
      exact ⟨rfl, HG.out⟩
    refine ⟨?_, ?_⟩
    · intro y w2 hG hD K hK
      have dc0 := hG.cell c0
      have dc1 := hG.cell c1
      have dc2 := hG.cell c2
      have dc3 := hG.cell c3
      have dc4 := hG.cell c4
      have dc5 := hG.cell c5
      simp only [fillL, Act.put, List.setIfInBounds_toArray, List.set_cons_zero, List.set_cons_succ, List.getD_cons_zero, List.getD_cons_succ, Is] at hK ⊢
      refine ite_yes (by rfl) ?_
      go_simp
      exact hK _ _ _ rfl (Grew.refl _) rfl
    refine ⟨?_, ?_⟩
    · intro y w2 hG hD K hK
      simp only [depsH, List.getD_cons_zero, List.getD_cons_succ, Is, and_true] at hD
      have h0 := hD
      clear hD
      simp only [fillL, Act.put, List.setIfInBounds_toArray, List.set_cons_zero, List.set_cons_succ, List.getD_cons_zero, List.getD_cons_succ, Is] at hK ⊢
      simp only [h0] at hK ⊢
      clear h0
      refine ite_yes (by rfl) ?_
      go_simp
      refine (few09_any t0 _ _ (HA.out.grew hG)).mono ?_
      rintro r w3 ⟨v', rfl, hn, hg3⟩
      exact hK _ _ _ rfl hg3 hn
    refine ⟨?_, ?_⟩
    · intro y w2 hG hD K hK
      have dd0 := hG.cell d0
      have dd1 := hG.cell d1
      have dd2 := hG.cell d2
      have dd3 := hG.cell d3
      have dd4 := hG.cell d4
      have dd5 := hG.cell d5
      simp only [fillL, Act.put, List.setIfInBounds_toArray, List.set_cons_zero, List.set_cons_succ, List.getD_cons_zero, List.getD_cons_succ, Is] at hK ⊢
      refine ite_yes (by rfl) ?_
      go_simp
      exact hK _ _ _ rfl (Grew.refl _) rfl
    refine ⟨?_, ?_⟩
    · intro y w2 hG hD K hK
      simp only [depsH, List.getD_cons_zero, List.getD_cons_succ, Is, and_true] at hD
      have h0 := hD.1
      have h1 := hD.2.1
      have h2 := hD.2.2
      clear hD
      simp only [fillL, Act.put, List.setIfInBounds_toArray, List.set_cons_zero, List.set_cons_succ, List.getD_cons_zero, List.getD_cons_succ, Is] at hK ⊢
      simp only [h0, h2] at hK ⊢
      clear h0 h2
      refine ite_yes (by rfl) ?_
      go_simp
      refine (few09_any t1 _ _ (HB.out.grew hG)).mono ?_
      rintro r w3 ⟨v', rfl, hn, hg3⟩
      exact hK _ _ _ rfl hg3 hn
    refine ⟨?_, ?_⟩
    · intro y w2 hG hD K hK
      simp only [depsH, List.getD_cons_zero, List.getD_cons_succ, Is, and_true] at hD
      have h0 := hD.1
      have h1 := hD.2.1
      have h2 := hD.2.2.1
      have h3 := hD.2.2.2
      clear hD
      simp only [fillL, Act.put, List.setIfInBounds_toArray, List.set_cons_zero, List.set_cons_succ, List.getD_cons_zero, List.getD_cons_succ, Is] at hK ⊢
      simp only [h0, h2] at hK ⊢
      clear h0 h2
      refine ite_yes (by rfl) ?_
      go_simp
      refine (alike_any (cutT t0) (cutT t1) _ _ _ h1 h3 (by have := HSA.out.1; omega) (by have := HSA.out.2; omega)).mono ?_
      rintro r w3 ⟨bq, rfl, hbq, hg3⟩
      obtain rfl : bq = false := bool_not hbq (fun h => absurd (HE1.out.trans h.1) H1.out)
      exact hK _ _ _ rfl hg3 rfl
    refine ⟨?_, ?_⟩
    · intro y w2 hG hD K hK
      simp only [depsH, List.getD_cons_zero, List.getD_cons_succ, Is, and_true] at hD
      have h0 := hD.1
      have h1 := hD.2.1
      have h2 := hD.2.2.1
      have h3 := hD.2.2.2.1
      have h4 := hD.2.2.2.2
      clear hD
      simp only [fillL, Act.put, List.setIfInBounds_toArray, List.set_cons_zero, List.set_cons_succ, List.getD_cons_zero, List.getD_cons_succ, Is] at hK ⊢
      simp only [h0, h2, h4] at hK ⊢
      clear h0 h2 h4
      refine ite_yes (by rfl) ?_
      go_simp
      exact hK _ _ _ rfl (Grew.refl _) rfl
    refine ⟨?_, ?_⟩
    · intro y w2 hG hD K hK
      simp only [depsH, List.getD_cons_zero, List.getD_cons_succ, Is, and_true] at hD
      have h0 := hD.1
      have h1 := hD.2.1
      have h2 := hD.2.2.1
      have h3 := hD.2.2.2.1
      have h4 := hD.2.2.2.2.1
      have h5 := hD.2.2.2.2.2
      clear hD
      simp only [fillL, Act.put, List.setIfInBounds_toArray, List.set_cons_zero, List.set_cons_succ, List.getD_cons_zero, List.getD_cons_succ, Is] at hK ⊢
      simp only [h0, h2, h4, h5] at hK ⊢
      clear h0 h2 h4 h5
      refine ite_yes (by rfl) ?_
      go_simp
      exact hK _ _ _ rfl (Grew.refl _) rfl
    trivial
  by_cases h2 : e2 = 0
  rotate_left
  · have hb2 : (e2 != 0) = true := by simpa using h2
    have hb1 : (e1 != 0) = false := by simpa using h1
    have H2 := Lib.hid h2
    clear h1 h2
    go_upto_region 6 with fail
    have c0 := row_cellT HRA.out 0 _ rfl
    have c1 := row_cellT HRA.out 1 _ rfl
    have c2 := row_cellT HRA.out 2 _ rfl
    have c3 := row_cellT HRA.out 3 _ rfl
    have c4 := row_cellT HRA.out 4 _ rfl
    have c5 := row_cellT HRA.out 5 _ rfl
    have d0 := row_cellT HRB.out 0 _ rfl
    have d1 := row_cellT HRB.out 1 _ rfl
    have d2 := row_cellT HRB.out 2 _ rfl
    have d3 := row_cellT HRB.out 3 _ rfl
    have d4 := row_cellT HRB.out 4 _ rfl
    have d5 := row_cellT HRB.out 5 _ rfl
    refine wp_region_tables Grew [[], [0], [], [0, 1, 2], [0, 1, 2, 3], [0, 1, 2, 3, 4], [0, 1, 2, 3, 4, 5]] [[(40, 2)], [(38, 0), (40, 2)], [(38, 0), (39, 1)], [(38, 0), (39, 1), (40, 2)], [(38, 0), (39, 1), (40, 2), (41, 3)], [(38, 0), (39, 1), (40, 2), (41, 3), (42, 4)], [(38, 0), (39, 1), (40, 2), (41, 3), (42, 4), (43, 5)]] [(38, 0), (39, 1), (40, 2), (41, 3), (42, 4), (43, 5), (4, 6)]
      [Is (.agg #[.int .i64 tak, .int .i64 tan, .int .u64 tau, .string tas, .slice taa4 tan4 tac4, .slice taa5 tan5 tac5]), Nd (cutT t0), Is (.agg #[.int .i64 tbk, .int .i64 tbn, .int .u64 tbu, .string tbs, .slice tba4 tbn4 tbc4, .slice tba5 tbn5 tbc5]), Nd (cutT t1), Is (.bool false), Is (.bool true), Is (.bool true)]
      (by kernel_rfl) Grew.trans Grew.refl (Grew.refl _).drew (by kernel_rfl) ⟨is_st, Nd.st _, is_st, Nd.st _, is_st, is_st, is_st, trivial⟩ ?_ rfl ?_
    rotate_left
    · intro y w2 hG hF
      simp only [factsH, Is, and_true, Nat.reduceAdd] at hF
      have hlast := hF.2.2.2.2.2.2
      clear hF
      simp only [fillL, Act.put, List.setIfInBounds_toArray, List.set_cons_zero, List.set_cons_succ, List.getD_cons_zero, List.getD_cons_succ, hlast]
      replace HG := Lib.hid (HG.out.trans hG)
      clear hG hlast
      go_wp2_with fail
      go_ret
      exact ⟨rfl, HG.out⟩
    refine ⟨?_, ?_⟩
    · intro y w2 hG hD K hK
      have dc0 := hG.cell c0
      have dc1 := hG.cell c1
      have dc2 := hG.cell c2
      have dc3 := hG.cell c3
      have dc4 := hG.cell c4
      have dc5 := hG.cell c5
      simp only [fillL, Act.put, List.setIfInBounds_toArray, List.set_cons_zero, List.set_cons_succ, List.getD_cons_zero, List.getD_cons_succ, Is] at hK ⊢
      refine ite_yes (by rfl) ?_
      go_simp
      exact hK _ _ _ rfl (Grew.refl _) rfl
    refine ⟨?_, ?_⟩
    · intro y w2 hG hD K hK
      simp only [depsH, List.getD_cons_zero, List.getD_cons_succ, Is, and_true] at hD
      have h0 := hD
      clear hD
      simp only [fillL, Act.put, List.setIfInBounds_toArray, List.set_cons_zero, List.set_cons_succ, List.getD_cons_zero, List.getD_cons_succ, Is] at hK ⊢
      simp only [h0] at hK ⊢
      clear h0
      refine ite_yes (by rfl) ?_
      go_simp
      refine (few09_any t0 _ _ (HA.out.grew hG)).mono ?_
      rintro r w3 ⟨v', rfl, hn, hg3⟩
      exact hK _ _ _ rfl hg3 hn
    refine ⟨?_, ?_⟩
    · intro y w2 hG hD K hK
      have dd0 := hG.cell d0
      have dd1 := hG.cell d1
      have dd2 := hG.cell d2
      have dd3 := hG.cell d3
      have dd4 := hG.cell d4
      have dd5 := hG.cell d5
      simp only [fillL, Act.put, List.setIfInBounds_toArray, List.set_cons_zero, List.set_cons_succ, List.getD_cons_zero, List.getD_cons_succ, Is] at hK ⊢
      refine ite_yes (by rfl) ?_
      go_simp
      exact hK _ _ _ rfl (Grew.refl _) rfl
    refine ⟨?_, ?_⟩
    · intro y w2 hG hD K hK
      simp only [depsH, List.getD_cons_zero, List.getD_cons_succ, Is, and_true] at hD
      have h0 := hD.1
      have h1 := hD.2.1
      have h2 := hD.2.2
      clear hD
      simp only [fillL, Act.put, List.setIfInBounds_toArray, List.set_cons_zero, List.set_cons_succ, List.getD_cons_zero, List.getD_cons_succ, Is] at hK ⊢
      simp only [h0, h2] at hK ⊢
      clear h0 h2
      refine ite_yes (by rfl) ?_
      go_simp
      refine (few09_any t1 _ _ (HB.out.grew hG)).mono ?_
      rintro r w3 ⟨v', rfl, hn, hg3⟩
      exact hK _ _ _ rfl hg3 hn
    refine ⟨?_, ?_⟩
    · intro y w2 hG hD K hK
      simp only [depsH, List.getD_cons_zero, List.getD_cons_succ, Is, and_true] at hD
      have h0 := hD.1
      have h1 := hD.2.1
      have h2 := hD.2.2.1
      have h3 := hD.2.2.2
      clear hD
      simp only [fillL, Act.put, List.setIfInBounds_toArray, List.set_cons_zero, List.set_cons_succ, List.getD_cons_zero, List.getD_cons_succ, Is] at hK ⊢
      simp only [h0, h2] at hK ⊢
      clear h0 h2
      refine ite_yes (by rfl) ?_
      go_simp
      refine (alike_any (cutT t0) (cutT t1) _ _ _ h1 h3 (by have := HSA.out.1; omega) (by have := HSA.out.2; omega)).mono ?_
      rintro r w3 ⟨bq, rfl, hbq, hg3⟩
      obtain rfl : bq = false := bool_not hbq (fun h => absurd (HE2.out.trans h.2.1) H2.out)
      exact hK _ _ _ rfl hg3 rfl
    refine ⟨?_, ?_⟩
    · intro y w2 hG hD K hK
      simp only [depsH, List.getD_cons_zero, List.getD_cons_succ, Is, and_true] at hD
      have h0 := hD.1
      have h1 := hD.2.1
      have h2 := hD.2.2.1
      have h3 := hD.2.2.2.1
      have h4 := hD.2.2.2.2
      clear hD
      simp only [fillL, Act.put, List.setIfInBounds_toArray, List.set_cons_zero, List.set_cons_succ, List.getD_cons_zero, List.getD_cons_succ, Is] at hK ⊢
      simp only [h0, h2, h4] at hK ⊢
      clear h0 h2 h4
      refine ite_yes (by rfl) ?_
      go_simp
      exact hK _ _ _ rfl (Grew.refl _) rfl
    refine ⟨?_, ?_⟩
    · intro y w2 hG hD K hK
      simp only [depsH, List.getD_cons_zero, List.getD_cons_succ, Is, and_true] at hD
      have h0 := hD.1
      have h1 := hD.2.1
      have h2 := hD.2.2.1
      have h3 := hD.2.2.2.1
      have h4 := hD.2.2.2.2.1
      have h5 := hD.2.2.2.2.2
      clear hD
      simp only [fillL, Act.put, List.setIfInBounds_toArray, List.set_cons_zero, List.set_cons_succ, List.getD_cons_zero, List.getD_cons_succ, Is] at hK ⊢
      simp only [h0, h2, h4, h5] at hK ⊢
      clear h0 h2 h4 h5
      refine ite_yes (by rfl) ?_
      go_simp
      exact hK _ _ _ rfl (Grew.refl _) rfl
    trivial
  have HP := Lib.hid (parts_of (cutT t0) (cutT t1) HSA.out.1 HSA.out.2 (HE1.out.symm.trans h1) (HE2.out.symm.trans h2))
  replace HX := Lib.hid (HX.out h1)
  replace HY := Lib.hid (HY.out h2)
  subst h1 h2
  generalize sortT (cutT t0) = X at *
  generalize sortT (cutT t1) = Y at *
  clear HA HB HRA HRB HSA HE1 HE2
  have c0 := row_cellT HVX.out 0 _ rfl
  have c1 := row_cellT HVX.out 1 _ rfl
  have c2 := row_cellT HVX.out 2 _ rfl
  have c3 := row_cellT HVX.out 3 _ rfl
  have c4 := row_cellT HVX.out 4 _ rfl
  have c5 := row_cellT HVX.out 5 _ rfl
  go_wp2_with fail
  refine (Of_any X _ x2 HX.out (by have := HP.out.sx; omega)).mono ?_
  intro r u6 hh
  obtain ⟨hgc, g1, pk, pn, pu, ps, pa4, pn4, pc4, pa5, pn5, pc5, rfl, hg1, hp⟩ := of_sum hh
  obtain rfl : g1 = 0 := hg1.trans HP.out.cx
  have HNP := Lib.hid (hp rfl)
  clear hh hg1 hp
  clear c0 c1 c2 c3 c4 c5
  replace HVX := Lib.hid (hgc.heap HVX.out)
  replace HVY := Lib.hid (hgc.heap HVY.out)
  replace HX := Lib.hid (NodeAt.grew hgc HX.out)
  replace HY := Lib.hid (NodeAt.grew hgc HY.out)
  replace HG := Lib.hid (HG.out.trans hgc)
  clear hgc
  go_upto_region 8 with fail
  obtain ⟨pp, hpp⟩ : ∃ N, u6.heap.size = N := ⟨_, rfl⟩
  have hr3 := heap_alloc_new u6 (.cells #[.int .i64 pk, .int .i64 pn, .int .u64 pu, .string ps, .slice pa4 pn4 pc4, .slice pa5 pn5 pc5] 26)
  have hga := (Grew.refl u6).alloc (.cells #[.int .i64 pk, .int .i64 pn, .int .u64 pu, .string ps, .slice pa4 pn4 pc4, .slice pa5 pn5 pc5] 26)
  generalize (u6.alloc (.cells #[.int .i64 pk, .int .i64 pn, .int .u64 pu, .string ps, .slice pa4 pn4 pc4, .slice pa5 pn5 pc5] 26)) = x3 at *
  rw [hpp] at hr3 ⊢
  have HVP := Lib.hid hr3
  clear hr3 hpp
  replace HVX := Lib.hid (hga.heap HVX.out)
  replace HVY := Lib.hid (hga.heap HVY.out)
  replace HX := Lib.hid (NodeAt.grew hga HX.out)
  replace HY := Lib.hid (NodeAt.grew hga HY.out)
  replace HNP := Lib.hid (NodeAt.grew hga HNP.out)
  replace HG := Lib.hid (HG.out.trans hga)
  clear hga
  have c0 := row_cellT HVY.out 0 _ rfl
  have c1 := row_cellT HVY.out 1 _ rfl
  have c2 := row_cellT HVY.out 2 _ rfl
  have c3 := row_cellT HVY.out 3 _ rfl
  have c4 := row_cellT HVY.out 4 _ rfl
  have c5 := row_cellT HVY.out 5 _ rfl
  go_wp2_with fail
  refine (Of_any Y _ x3 HY.out (by have := HP.out.sy; omega)).mono ?_
  intro r u7 hh
  obtain ⟨hgc, g2, qk, qn, qu, qs, qa4, qn4, qc4, qa5, qn5, qc5, rfl, hg2, hq⟩ := of_sum hh
  obtain rfl : g2 = 0 := hg2.trans HP.out.cy
  have HNQ := Lib.hid (hq rfl)
  clear hh hg2 hq
  clear c0 c1 c2 c3 c4 c5
  replace HVX := Lib.hid (hgc.heap HVX.out)
  replace HVY := Lib.hid (hgc.heap HVY.out)
  replace HX := Lib.hid (NodeAt.grew hgc HX.out)
  replace HY := Lib.hid (NodeAt.grew hgc HY.out)
  replace HNP := Lib.hid (NodeAt.grew hgc HNP.out)
  replace HVP := Lib.hid (hgc.heap HVP.out)
  replace HG := Lib.hid (HG.out.trans hgc)
  clear hgc
  go_upto_region 9 with fail
  obtain ⟨pq, hpq⟩ : ∃ N, u7.heap.size = N := ⟨_, rfl⟩
  have hr4 := heap_alloc_new u7 (.cells #[.int .i64 qk, .int .i64 qn, .int .u64 qu, .string qs, .slice qa4 qn4 qc4, .slice qa5 qn5 qc5] 26)
  have hga := (Grew.refl u7).alloc (.cells #[.int .i64 qk, .int .i64 qn, .int .u64 qu, .string qs, .slice qa4 qn4 qc4, .slice qa5 qn5 qc5] 26)
  generalize (u7.alloc (.cells #[.int .i64 qk, .int .i64 qn, .int .u64 qu, .string qs, .slice qa4 qn4 qc4, .slice qa5 qn5 qc5] 26)) = x4 at *
  rw [hpq] at hr4 ⊢
  have HVQ := Lib.hid hr4
  clear hr4 hpq
  replace HVX := Lib.hid (hga.heap HVX.out)
  replace HVY := Lib.hid (hga.heap HVY.out)
  replace HX := Lib.hid (NodeAt.grew hga HX.out)
  replace HY := Lib.hid (NodeAt.grew hga HY.out)
  replace HNP := Lib.hid (NodeAt.grew hga HNP.out)
  replace HVP := Lib.hid (hga.heap HVP.out)
  replace HNQ := Lib.hid (NodeAt.grew hga HNQ.out)
  replace HG := Lib.hid (HG.out.trans hga)
  clear hga
  obtain ⟨ab, hab⟩ : ∃ ab : Bool, (ab = true ↔ alikeP X Y) := by classical exact ⟨decide (alikeP X Y), by simp⟩
  have HAB := Lib.hid hab
  clear hab
  have cx0 := row_cellT HVX.out 0 _ rfl
  have cx1 := row_cellT HVX.out 1 _ rfl
  have cx2 := row_cellT HVX.out 2 _ rfl
  have cx3 := row_cellT HVX.out 3 _ rfl
  have cx4 := row_cellT HVX.out 4 _ rfl
  have cx5 := row_cellT HVX.out 5 _ rfl
  have cy0 := row_cellT HVY.out 0 _ rfl
  have cy1 := row_cellT HVY.out 1 _ rfl
  have cy2 := row_cellT HVY.out 2 _ rfl
  have cy3 := row_cellT HVY.out 3 _ rfl
  have cy4 := row_cellT HVY.out 4 _ rfl
  have cy5 := row_cellT HVY.out 5 _ rfl
  have cp0 := row_cellT HVP.out 0 _ rfl
  have cp1 := row_cellT HVP.out 1 _ rfl
  have cp2 := row_cellT HVP.out 2 _ rfl
  have cp3 := row_cellT HVP.out 3 _ rfl
  have cp4 := row_cellT HVP.out 4 _ rfl
  have cp5 := row_cellT HVP.out 5 _ rfl
  have cq0 := row_cellT HVQ.out 0 _ rfl
  have cq1 := row_cellT HVQ.out 1 _ rfl
  have cq2 := row_cellT HVQ.out 2 _ rfl
  have cq3 := row_cellT HVQ.out 3 _ rfl
  have cq4 := row_cellT HVQ.out 4 _ rfl
  have cq5 := row_cellT HVQ.out 5 _ rfl
  refine wp_region_tables Grew [[], [0], [0, 1], [0, 1, 2], [0, 1, 2, 3], [0, 1, 2, 3, 4], [0, 1, 2, 3, 4, 5], [0, 1, 2, 3, 4, 5, 6], [0, 1, 2, 3, 4, 5, 6], [0, 1, 2, 3, 4, 5, 6, 7, 8], [0, 1, 2, 3, 4, 5, 6, 7, 8, 9], [0, 1, 2, 3, 4, 5, 6, 7, 8, 9, 10], [0, 1, 2, 3, 4, 5, 6, 7, 8, 9, 10, 11], [0, 1, 2, 3, 4, 5, 6, 7, 8, 9, 10, 11, 12], [0, 1, 2, 3, 4, 5, 6, 7, 8, 9, 10, 11, 12], [0, 1, 2, 3, 4, 5, 6, 7, 8, 9, 10, 11, 12, 13, 14], [0, 1, 2, 3, 4, 5, 6, 7, 8, 9, 10, 11, 12, 13, 14, 15], [0, 1, 2, 3, 4, 5, 6, 7, 8, 9, 10, 11, 12, 13, 14, 15, 16], [0, 1, 2, 3, 4, 5, 6, 7, 8, 9, 10, 11, 12, 13, 14, 15, 16, 17], [0, 1, 2, 3, 4, 5, 6, 7, 8, 9, 10, 11, 12, 13, 14, 15, 16, 17, 18], [0, 1, 2, 3, 4, 5, 6, 7, 8, 9, 10, 11, 12, 13, 14, 15, 16, 17, 18], [0, 1, 2, 3, 4, 5, 6, 7, 8, 9, 10, 11, 12, 13, 14, 15, 16, 17, 18, 19, 20], [0, 1, 2, 3, 4, 5, 6, 7, 8, 9, 10, 11, 12, 13, 14, 15, 16, 17, 18], [0, 1, 2, 3, 4, 5, 6, 7, 8, 9, 10, 11, 12, 13, 14, 15, 16, 17, 18], [0, 1, 2, 3, 4, 5, 6, 7, 8, 9, 10, 11, 12, 13, 14, 15, 16, 17, 18, 19, 20, 21, 22, 23], [0, 1, 2, 3, 4, 5, 6, 7, 8, 9, 10, 11, 12, 13, 14, 15, 16, 17, 18, 19, 20, 21, 22, 23, 24], [0, 1, 2, 3, 4, 5, 6, 7, 8, 9, 10, 11, 12, 13, 14, 15, 16, 17, 18, 19, 20, 21, 22, 23, 24, 25], [0, 1, 2, 3, 4, 5, 6, 7, 8, 9, 10, 11, 12, 13, 14, 15, 16, 17, 18, 19, 20, 21, 22, 23, 24, 25, 26], [0, 1, 2, 3, 4, 5, 6, 7, 8, 9, 10, 11, 12, 13, 14, 15, 16, 17, 18, 19, 20, 21, 22, 23, 24, 25, 26, 27], [0, 1, 2, 3, 4, 5, 6, 7, 8, 9, 10, 11, 12, 13, 14, 15, 16, 17, 18, 19, 20, 21, 22, 23, 24, 25, 26, 27], [0, 1, 2, 3, 4, 5, 6, 7, 8, 9, 10, 11, 12, 13, 14, 15, 16, 17, 18, 19, 20, 21, 22, 23, 24, 25, 26, 27, 28, 29], [0, 1, 2, 3, 4, 5, 6, 7, 8, 9, 10, 11, 12, 13, 14, 15, 16, 17, 18, 19, 20, 21, 22, 23, 24, 25, 26, 27], [0, 1, 2, 3, 4, 5, 6, 7, 8, 9, 10, 11, 12, 13, 14, 15, 16, 17, 18, 19, 20, 21, 22, 23, 24, 25, 26, 27], [0, 1, 2, 3, 4, 5, 6, 7, 8, 9, 10, 11, 12, 13, 14, 15, 16, 17, 18, 19, 20, 21, 22, 23, 24, 25, 26, 27, 28, 29, 30, 31, 32], [0, 1, 2, 3, 4, 5, 6, 7, 8, 9, 10, 11, 12, 13, 14, 15, 16, 17, 18, 19, 20, 21, 22, 23, 24, 25, 26, 27, 28, 29, 30, 31, 32, 33], [0, 1, 2, 3, 4, 5, 6, 7, 8, 9, 10, 11, 12, 13, 14, 15, 16, 17, 18, 19, 20, 21, 22, 23, 24, 25, 26, 27, 28, 29, 30, 31, 32, 33, 34]] [[], [(54, 0)], [(54, 0), (55, 1)], [(54, 0), (55, 1), (56, 2)], [(54, 0), (55, 1), (56, 2), (57, 3)], [(54, 0), (55, 1), (56, 2), (57, 3), (58, 4)], [(54, 0), (55, 1), (56, 2), (57, 3), (58, 4), (59, 5)], [(54, 0), (55, 1), (56, 2), (57, 3), (58, 4), (59, 5), (60, 6), (62, 8)], [(54, 0), (55, 1), (56, 2), (57, 3), (58, 4), (59, 5), (60, 6), (61, 7)], [(54, 0), (55, 1), (56, 2), (57, 3), (58, 4), (59, 5), (60, 6), (61, 7), (62, 8)], [(54, 0), (55, 1), (56, 2), (57, 3), (58, 4), (59, 5), (60, 6), (61, 7), (62, 8), (63, 9)], [(54, 0), (55, 1), (56, 2), (57, 3), (58, 4), (59, 5), (60, 6), (61, 7), (62, 8), (63, 9), (64, 10)], [(54, 0), (55, 1), (56, 2), (57, 3), (58, 4), (59, 5), (60, 6), (61, 7), (62, 8), (63, 9), (64, 10), (65, 11)], [(54, 0), (55, 1), (56, 2), (57, 3), (58, 4), (59, 5), (60, 6), (61, 7), (62, 8), (63, 9), (64, 10), (65, 11), (66, 12), (68, 14)], [(54, 0), (55, 1), (56, 2), (57, 3), (58, 4), (59, 5), (60, 6), (61, 7), (62, 8), (63, 9), (64, 10), (65, 11), (66, 12), (67, 13)], [(54, 0), (55, 1), (56, 2), (57, 3), (58, 4), (59, 5), (60, 6), (61, 7), (62, 8), (63, 9), (64, 10), (65, 11), (66, 12), (67, 13), (68, 14)], [(54, 0), (55, 1), (56, 2), (57, 3), (58, 4), (59, 5), (60, 6), (61, 7), (62, 8), (63, 9), (64, 10), (65, 11), (66, 12), (67, 13), (68, 14), (69, 15)], [(54, 0), (55, 1), (56, 2), (57, 3), (58, 4), (59, 5), (60, 6), (61, 7), (62, 8), (63, 9), (64, 10), (65, 11), (66, 12), (67, 13), (68, 14), (69, 15), (70, 16)], [(54, 0), (55, 1), (56, 2), (57, 3), (58, 4), (59, 5), (60, 6), (61, 7), (62, 8), (63, 9), (64, 10), (65, 11), (66, 12), (67, 13), (68, 14), (69, 15), (70, 16), (71, 17)], [(54, 0), (55, 1), (56, 2), (57, 3), (58, 4), (59, 5), (60, 6), (61, 7), (62, 8), (63, 9), (64, 10), (65, 11), (66, 12), (67, 13), (68, 14), (69, 15), (70, 16), (71, 17), (72, 18), (74, 20), (76, 22), (77, 23)], [(54, 0), (55, 1), (56, 2), (57, 3), (58, 4), (59, 5), (60, 6), (61, 7), (62, 8), (63, 9), (64, 10), (65, 11), (66, 12), (67, 13), (68, 14), (69, 15), (70, 16), (71, 17), (72, 18), (73, 19), (76, 22), (77, 23)], [(54, 0), (55, 1), (56, 2), (57, 3), (58, 4), (59, 5), (60, 6), (61, 7), (62, 8), (63, 9), (64, 10), (65, 11), (66, 12), (67, 13), (68, 14), (69, 15), (70, 16), (71, 17), (72, 18), (73, 19), (74, 20), (76, 22), (77, 23)], [(54, 0), (55, 1), (56, 2), (57, 3), (58, 4), (59, 5), (60, 6), (61, 7), (62, 8), (63, 9), (64, 10), (65, 11), (66, 12), (67, 13), (68, 14), (69, 15), (70, 16), (71, 17), (72, 18), (73, 19), (74, 20), (75, 21), (77, 23)], [(54, 0), (55, 1), (56, 2), (57, 3), (58, 4), (59, 5), (60, 6), (61, 7), (62, 8), (63, 9), (64, 10), (65, 11), (66, 12), (67, 13), (68, 14), (69, 15), (70, 16), (71, 17), (72, 18), (73, 19), (74, 20), (75, 21), (76, 22)], [(54, 0), (55, 1), (56, 2), (57, 3), (58, 4), (59, 5), (60, 6), (61, 7), (62, 8), (63, 9), (64, 10), (65, 11), (66, 12), (67, 13), (68, 14), (69, 15), (70, 16), (71, 17), (72, 18), (73, 19), (74, 20), (75, 21), (76, 22), (77, 23)], [(54, 0), (55, 1), (56, 2), (57, 3), (58, 4), (59, 5), (60, 6), (61, 7), (62, 8), (63, 9), (64, 10), (65, 11), (66, 12), (67, 13), (68, 14), (69, 15), (70, 16), (71, 17), (72, 18), (73, 19), (74, 20), (75, 21), (76, 22), (77, 23), (78, 24)], [(54, 0), (55, 1), (56, 2), (57, 3), (58, 4), (59, 5), (60, 6), (61, 7), (62, 8), (63, 9), (64, 10), (65, 11), (66, 12), (67, 13), (68, 14), (69, 15), (70, 16), (71, 17), (72, 18), (73, 19), (74, 20), (75, 21), (76, 22), (77, 23), (78, 24), (79, 25)], [(54, 0), (55, 1), (56, 2), (57, 3), (58, 4), (59, 5), (60, 6), (61, 7), (62, 8), (63, 9), (64, 10), (65, 11), (66, 12), (67, 13), (68, 14), (69, 15), (70, 16), (71, 17), (72, 18), (73, 19), (74, 20), (75, 21), (76, 22), (77, 23), (78, 24), (79, 25), (80, 26)], [(54, 0), (55, 1), (56, 2), (57, 3), (58, 4), (59, 5), (60, 6), (61, 7), (62, 8), (63, 9), (64, 10), (65, 11), (66, 12), (67, 13), (68, 14), (69, 15), (70, 16), (71, 17), (72, 18), (73, 19), (74, 20), (75, 21), (76, 22), (77, 23), (78, 24), (79, 25), (80, 26), (81, 27), (83, 29), (85, 31), (86, 32)], [(54, 0), (55, 1), (56, 2), (57, 3), (58, 4), (59, 5), (60, 6), (61, 7), (62, 8), (63, 9), (64, 10), (65, 11), (66, 12), (67, 13), (68, 14), (69, 15), (70, 16), (71, 17), (72, 18), (73, 19), (74, 20), (75, 21), (76, 22), (77, 23), (78, 24), (79, 25), (80, 26), (81, 27), (82, 28), (85, 31), (86, 32)], [(54, 0), (55, 1), (56, 2), (57, 3), (58, 4), (59, 5), (60, 6), (61, 7), (62, 8), (63, 9), (64, 10), (65, 11), (66, 12), (67, 13), (68, 14), (69, 15), (70, 16), (71, 17), (72, 18), (73, 19), (74, 20), (75, 21), (76, 22), (77, 23), (78, 24), (79, 25), (80, 26), (81, 27), (82, 28), (83, 29), (85, 31), (86, 32)], [(54, 0), (55, 1), (56, 2), (57, 3), (58, 4), (59, 5), (60, 6), (61, 7), (62, 8), (63, 9), (64, 10), (65, 11), (66, 12), (67, 13), (68, 14), (69, 15), (70, 16), (71, 17), (72, 18), (73, 19), (74, 20), (75, 21), (76, 22), (77, 23), (78, 24), (79, 25), (80, 26), (81, 27), (82, 28), (83, 29), (84, 30), (86, 32)], [(54, 0), (55, 1), (56, 2), (57, 3), (58, 4), (59, 5), (60, 6), (61, 7), (62, 8), (63, 9), (64, 10), (65, 11), (66, 12), (67, 13), (68, 14), (69, 15), (70, 16), (71, 17), (72, 18), (73, 19), (74, 20), (75, 21), (76, 22), (77, 23), (78, 24), (79, 25), (80, 26), (81, 27), (82, 28), (83, 29), (84, 30), (85, 31)], [(54, 0), (55, 1), (56, 2), (57, 3), (58, 4), (59, 5), (60, 6), (61, 7), (62, 8), (63, 9), (64, 10), (65, 11), (66, 12), (67, 13), (68, 14), (69, 15), (70, 16), (71, 17), (72, 18), (73, 19), (74, 20), (75, 21), (76, 22), (77, 23), (78, 24), (79, 25), (80, 26), (81, 27), (82, 28), (83, 29), (84, 30), (85, 31), (86, 32)], [(54, 0), (55, 1), (56, 2), (57, 3), (58, 4), (59, 5), (60, 6), (61, 7), (62, 8), (63, 9), (64, 10), (65, 11), (66, 12), (67, 13), (68, 14), (69, 15), (70, 16), (71, 17), (72, 18), (73, 19), (74, 20), (75, 21), (76, 22), (77, 23), (78, 24), (79, 25), (80, 26), (81, 27), (82, 28), (83, 29), (84, 30), (85, 31), (86, 32), (87, 33)], [(54, 0), (55, 1), (56, 2), (57, 3), (58, 4), (59, 5), (60, 6), (61, 7), (62, 8), (63, 9), (64, 10), (65, 11), (66, 12), (67, 13), (68, 14), (69, 15), (70, 16), (71, 17), (72, 18), (73, 19), (74, 20), (75, 21), (76, 22), (77, 23), (78, 24), (79, 25), (80, 26), (81, 27), (82, 28), (83, 29), (84, 30), (85, 31), (86, 32), (87, 33), (88, 34)]] [(54, 0), (55, 1), (56, 2), (57, 3), (58, 4), (59, 5), (60, 6), (61, 7), (62, 8), (63, 9), (64, 10), (65, 11), (66, 12), (67, 13), (68, 14), (69, 15), (70, 16), (71, 17), (72, 18), (73, 19), (74, 20), (75, 21), (76, 22), (77, 23), (78, 24), (79, 25), (80, 26), (81, 27), (82, 28), (83, 29), (84, 30), (85, 31), (86, 32), (87, 33), (88, 34), (89, 35)]
    [Is (.int .i64 0), Is (.bool false), Is (.bool false), Is (.int .i64 0), Is (.bool false), Is (.bool false), Is (.bool false), Is (.agg #[.int .i64 xk, .int .i64 xn, .int .u64 xu, .string xs, .slice xa4 xn4 xc4, .slice xa5 xn5 xc5]), Is (.agg #[.int .i64 xk, .int .i64 xn, .int .u64 xu, .string xs, .slice xa4 xn4 xc4, .slice xa5 xn5 xc5]), Is (.bool true), Is (.bool false), Is (.bool false), Is (.bool false), Is (.agg #[.int .i64 pk, .int .i64 pn, .int .u64 pu, .string ps, .slice pa4 pn4 pc4, .slice pa5 pn5 pc5]), Is (.agg #[.int .i64 xk, .int .i64 xn, .int .u64 xu, .string xs, .slice xa4 xn4 xc4, .slice xa5 xn5 xc5]), Is (.bool true), Is (.bool false), Is (.bool false), Is (.bool false), Is (.agg #[.int .i64 xk, .int .i64 xn, .int .u64 xu, .string xs, .slice xa4 xn4 xc4, .slice xa5 xn5 xc5]), Is (.agg #[.int .i64 yk, .int .i64 yn, .int .u64 yu, .string ys, .slice ya4 yn4 yc4, .slice ya5 yn5 yc5]), Is (.bool ab), Is (.agg #[.int .i64 yk, .int .i64 yn, .int .u64 yu, .string ys, .slice ya4 yn4 yc4, .slice ya5 yn5 yc5]), Is (.agg #[.int .i64 xk, .int .i64 xn, .int .u64 xu, .string xs, .slice xa4 xn4 xc4, .slice xa5 xn5 xc5]), Is (.bool ab), Is (.bool false), Is (.bool false), Is (.bool false), Is (.agg #[.int .i64 xk, .int .i64 xn, .int .u64 xu, .string xs, .slice xa4 xn4 xc4, .slice xa5 xn5 xc5]), Is (.agg #[.int .i64 yk, .int .i64 yn, .int .u64 yu, .string ys, .slice ya4 yn4 yc4, .slice ya5 yn5 yc5]), Is (.bool ab), Is (.agg #[.int .i64 pk, .int .i64 pn, .int .u64 pu, .string ps, .slice pa4 pn4 pc4, .slice pa5 pn5 pc5]), Is (.agg #[.int .i64 qk, .int .i64 qn, .int .u64 qu, .string qs, .slice qa4 qn4 qc4, .slice qa5 qn5 qc5]), Is (.bool ab), Is (.bool false), Is (.bool false)]
    (by kernel_rfl) Grew.trans Grew.refl (Grew.refl _).drew (by kernel_rfl) ⟨is_st, is_st, is_st, is_st, is_st, is_st, is_st, is_st, is_st, is_st, is_st, is_st, is_st, is_st, is_st, is_st, is_st, is_st, is_st, is_st, is_st, is_st, is_st, is_st, is_st, is_st, is_st, is_st, is_st, is_st, is_st, is_st, is_st, is_st, is_st, is_st, trivial⟩ ?_ rfl ?_
  rotate_left
  · intro y w2 hG hF
    simp only [factsH, Is, and_true, Nat.reduceAdd] at hF
    have hlast := hF.2.2.2.2.2.2.2.2.2.2.2.2.2.2.2.2.2.2.2.2.2.2.2.2.2.2.2.2.2.2.2.2.2.2.2
    clear hF
    simp only [fillL, Act.put, List.setIfInBounds_toArray, List.set_cons_zero, List.set_cons_succ, List.getD_cons_zero, List.getD_cons_succ, hlast]
    have HGR := Lib.hid hG
    replace HG := Lib.hid (HG.out.trans hG)
    clear hG hlast cx0 cx1 cx2 cx3 cx4 cx5 cy0 cy1 cy2 cy3 cy4 cy5 cp0 cp1 cp2 cp3 cp4 cp5 cq0 cq1 cq2 cq3 cq4 cq5
    replace HVX := Lib.hid (HGR.out.heap HVX.out)
    replace HVY := Lib.hid (HGR.out.heap HVY.out)
    replace HX := Lib.hid (HX.out.grew HGR.out)
    replace HY := Lib.hid (HY.out.grew HGR.out)
    clear HNP HNQ HVP HVQ HGR
    go_wp2_with fail
    go_loopw [13] (fun i wr => ∃ q : Nat, q ≤ 120 ∧ i = .int .i64 q ∧ Hid (Grew w2 wr)) (fun i _ => 121 - (intOf i).toNat)
    case atStart => exact ⟨0, by omega, rfl, Grew.refl _⟩
    case round =>
      obtain ⟨q, hq, rfl, HW⟩ := hrel
      have c0 := row_cellT (HW.out.heap HVX.out) 0 _ rfl
      have c1 := row_cellT (HW.out.heap HVX.out) 1 _ rfl
      have c2 := row_cellT (HW.out.heap HVX.out) 2 _ rfl
      have c3 := row_cellT (HW.out.heap HVX.out) 3 _ rfl
      have c4 := row_cellT (HW.out.heap HVX.out) 4 _ rfl
      have c5 := row_cellT (HW.out.heap HVX.out) 5 _ rfl
      have d0 := row_cellT (HW.out.heap HVY.out) 0 _ rfl
      have d1 := row_cellT (HW.out.heap HVY.out) 1 _ rfl
      have d2 := row_cellT (HW.out.heap HVY.out) 2 _ rfl
      have d3 := row_cellT (HW.out.heap HVY.out) 3 _ rfl
      have d4 := row_cellT (HW.out.heap HVY.out) 4 _ rfl
      have d5 := row_cellT (HW.out.heap HVY.out) 5 _ rfl
      go_wp2_with fail
      refine (alike_any X Y _ _ wr (HX.out.grew HW.out) (HY.out.grew HW.out) (by have := HP.out.sx; omega) (by have := HP.out.sy; omega)).mono ?_
      rintro r w3 ⟨bq, rfl, hbq, hg3⟩
      obtain rfl : ab = bq := bool_of HAB.out hbq
      have HW3 := Lib.hid (HW.out.trans hg3)
      clear hbq
      cases ab
      · have HGF := Lib.hid (HG.out.trans HW3.out)
        clear hg3 c0 c1 c2 c3 c4 c5 d0 d1 d2 d3 d4 d5
        go_wp2_with fail
        go_ret
        exact ⟨rfl, HGF.out⟩
      have HAL : Hid (alikeP X Y) := HAB.out.1 rfl
      replace c0 := hg3.cell c0
      replace c1 := hg3.cell c1
      replace c2 := hg3.cell c2
      replace c3 := hg3.cell c3
      replace c4 := hg3.cell c4
      replace c5 := hg3.cell c5
      replace d0 := hg3.cell d0
      replace d1 := hg3.cell d1
      replace d2 := hg3.cell d2
      replace d3 := hg3.cell d3
      replace d4 := hg3.cell d4
      replace d5 := hg3.cell d5
      clear hg3
      go_wp2_with fail
      refine (size_any X _ w3 (HX.out.grew HW3.out) (by have := HP.out.sx; omega)).mono ?_
      rintro r w4 ⟨rfl, hg4⟩
      replace c0 := hg4.cell c0
      replace c1 := hg4.cell c1
      replace c2 := hg4.cell c2
      replace c3 := hg4.cell c3
      replace c4 := hg4.cell c4
      replace c5 := hg4.cell c5
      replace d0 := hg4.cell d0
      replace d1 := hg4.cell d1
      replace d2 := hg4.cell d2
      replace d3 := hg4.cell d3
      replace d4 := hg4.cell d4
      replace d5 := hg4.cell d5
      have HW4 := Lib.hid (HW3.out.trans hg4)
      clear hg4
      obtain ⟨sz, hsz⟩ : ∃ sz, X.size = sz := ⟨_, rfl⟩
      have HSZ : Hid (X.size = sz ∧ Y.size = sz) := ⟨hsz, by rw [HP.out.size HAL.out, hsz]⟩
      have hs120 : sz ≤ 120 := by rw [← hsz]; exact HP.out.sx
      rw [hsz]
      clear hsz
      by_cases hqs : q < sz
      rotate_left
      · have hqi : ¬ (q : Int) < sz := by omega
        have HGF := Lib.hid (HG.out.trans HW4.out)
        clear c0 c1 c2 c3 c4 c5 d0 d1 d2 d3 d4 d5
        go_wp2_with fail
        go_ret
        exact ⟨rfl, HGF.out⟩
      have hqi : (q : Int) < sz := by omega
      have hqd : decide ((q : Int) < sz) = true := decide_eq_true hqi
      have hq130 : (q : Int) < 130 := by omega
      go_wp2_with fail
      refine (at_any X q (by omega) _ w4 (HX.out.grew HW4.out) HP.out.fx (by have := HP.out.sx; omega)).mono ?_
      rintro r w5 ⟨hg5, ⟨lb, xx, xv, hxx, rfl, hnx⟩ | ⟨hxx, _⟩⟩
      rotate_left
      · rw [List.getElem?_eq_none_iff, preT_length] at hxx; have := HSZ.out.1; omega
      have HNX := Lib.hid hnx
      obtain ⟨mk, mn, mu, ms, ma4, mn4, mc4, ma5, mn5, mc5, rfl⟩ := hnx.node6
      have HXX := Lib.hid hxx
      have HG5 := Lib.hid hg5
      replace d0 := hg5.cell d0
      replace d1 := hg5.cell d1
      replace d2 := hg5.cell d2
      replace d3 := hg5.cell d3
      replace d4 := hg5.cell d4
      replace d5 := hg5.cell d5
      clear hnx hxx hg5 c0 c1 c2 c3 c4 c5
      go_upto_region 15 with fail
      obtain ⟨pm, hpm⟩ : ∃ N, w5.heap.size = N := ⟨_, rfl⟩
      have hr5 := heap_alloc_new w5 (.cells #[.int .i64 mk, .int .i64 mn, .int .u64 mu, .string ms, .slice ma4 mn4 mc4, .slice ma5 mn5 mc5] 26)
      have hg6 := (Grew.refl w5).alloc (.cells #[.int .i64 mk, .int .i64 mn, .int .u64 mu, .string ms, .slice ma4 mn4 mc4, .slice ma5 mn5 mc5] 26)
      generalize (w5.alloc (.cells #[.int .i64 mk, .int .i64 mn, .int .u64 mu, .string ms, .slice ma4 mn4 mc4, .slice ma5 mn5 mc5] 26)) = w6 at *
      rw [hpm] at hr5 ⊢
      replace d0 := hg6.cell d0
      replace d1 := hg6.cell d1
      replace d2 := hg6.cell d2
      replace d3 := hg6.cell d3
      replace d4 := hg6.cell d4
      replace d5 := hg6.cell d5
      have HR5 := Lib.hid hr5
      have HG6 := Lib.hid hg6
      clear hr5 hg6 hpm
      go_wp2_with fail
      refine (at_any Y q (by omega) _ w6 (HY.out.grew (HW4.out.trans (HG5.out.trans HG6.out))) HP.out.fy (by have := HP.out.sy; omega)).mono ?_
      rintro r w7 ⟨hg7, ⟨lb2, yy, yv, hyy, rfl, hny⟩ | ⟨hyy, _⟩⟩
      rotate_left
      · rw [List.getElem?_eq_none_iff, preT_length] at hyy; have := HSZ.out.2; omega
      have HNY := Lib.hid hny
      obtain ⟨ok, on, ou, os, oa4, on4, oc4, oa5, on5, oc5, rfl⟩ := hny.node6
      have HYY := Lib.hid hyy
      have HG7 := Lib.hid hg7
      clear hny hyy hg7 d0 d1 d2 d3 d4 d5
      go_upto_region 16 with fail
      obtain ⟨po, hpo⟩ : ∃ N, w7.heap.size = N := ⟨_, rfl⟩
      have hr7 := heap_alloc_new w7 (.cells #[.int .i64 ok, .int .i64 on, .int .u64 ou, .string os, .slice oa4 on4 oc4, .slice oa5 on5 oc5] 26)
      have hg8 := (Grew.refl w7).alloc (.cells #[.int .i64 ok, .int .i64 on, .int .u64 ou, .string os, .slice oa4 on4 oc4, .slice oa5 on5 oc5] 26)
      generalize (w7.alloc (.cells #[.int .i64 ok, .int .i64 on, .int .u64 ou, .string os, .slice oa4 on4 oc4, .slice oa5 on5 oc5] 26)) = w8 at *
      rw [hpo] at hr7 ⊢
      have HR6 := Lib.hid (hg8.heap (HG7.out.heap HR5.out))
      have c0 := row_cellT HR6.out 0 _ rfl
      have c1 := row_cellT HR6.out 1 _ rfl
      have c2 := row_cellT HR6.out 2 _ rfl
      have c3 := row_cellT HR6.out 3 _ rfl
      have c4 := row_cellT HR6.out 4 _ rfl
      have c5 := row_cellT HR6.out 5 _ rfl
      have d0 := row_cellT hr7 0 _ rfl
      have d1 := row_cellT hr7 1 _ rfl
      have d2 := row_cellT hr7 2 _ rfl
      have d3 := row_cellT hr7 3 _ rfl
      have d4 := row_cellT hr7 4 _ rfl
      have d5 := row_cellT hr7 5 _ rfl
      have HG8 := Lib.hid hg8
      clear hr7 hg8 hpo
      have HQ := Lib.hid (HP.out.parts HAL.out q lb xx lb2 yy HXX.out HYY.out)
      go_wp2_with fail
      refine (alike_any xx yy _ _ w8 (HNX.out.grew ((HG6.out.trans HG7.out).trans HG8.out)) (HNY.out.grew HG8.out) (by have := HQ.out.2.1; omega) (by have := HQ.out.2.2; omega)).mono ?_
      rintro r w9 ⟨bq, rfl, hbq, hg9⟩
      obtain rfl : bq = true := bool_iff hbq HQ.out.1
      have HG9 := Lib.hid (HW4.out.trans (HG5.out.trans (HG6.out.trans (HG7.out.trans (HG8.out.trans hg9)))))
      clear hg9 hbq c0 c1 c2 c3 c4 c5 d0 d1 d2 d3 d4 d5
      go_wp2_with fail
      go_roundw
      case rel => exact ⟨q + 1, by omega, by go_num, HG9.out⟩
      case measure => simp [intOf]; omega
  refine ⟨?_, ?_⟩
  · intro y w2 hG hD K hK
    simp only [fillL, Act.put, List.setIfInBounds_toArray, List.set_cons_zero, List.set_cons_succ, List.getD_cons_zero, List.getD_cons_succ, Is] at hK ⊢
    refine ite_yes (by rfl) ?_
    go_simp
    exact hK _ _ _ rfl (Grew.refl _) rfl
  refine ⟨?_, ?_⟩
  · intro y w2 hG hD K hK
    simp only [depsH, List.getD_cons_zero, List.getD_cons_succ, Is, and_true] at hD
    have h0 := hD
    clear hD
    simp only [fillL, Act.put, List.setIfInBounds_toArray, List.set_cons_zero, List.set_cons_succ, List.getD_cons_zero, List.getD_cons_succ, Is] at hK ⊢
    simp only [h0] at hK ⊢
    clear h0
    refine ite_yes (by rfl) ?_
    go_simp
    exact hK _ _ _ rfl (Grew.refl _) rfl
  refine ⟨?_, ?_⟩
  · intro y w2 hG hD K hK
    simp only [depsH, List.getD_cons_zero, List.getD_cons_succ, Is, and_true] at hD
    have h0 := hD.1
    have h1 := hD.2
    clear hD
    simp only [fillL, Act.put, List.setIfInBounds_toArray, List.set_cons_zero, List.set_cons_succ, List.getD_cons_zero, List.getD_cons_succ, Is] at hK ⊢
    simp only [h0, h1] at hK ⊢
    clear h0 h1
    refine ite_yes (by rfl) ?_
    go_simp
    exact hK _ _ _ rfl (Grew.refl _) rfl
  refine ⟨?_, ?_⟩
  · intro y w2 hG hD K hK
    simp only [depsH, List.getD_cons_zero, List.getD_cons_succ, Is, and_true] at hD
    have h0 := hD.1
    have h1 := hD.2.1
    have h2 := hD.2.2
    clear hD
    simp only [fillL, Act.put, List.setIfInBounds_toArray, List.set_cons_zero, List.set_cons_succ, List.getD_cons_zero, List.getD_cons_succ, Is] at hK ⊢
    simp only [h0, h1, h2] at hK ⊢
    clear h0 h1 h2
    refine ite_yes (by rfl) ?_
    go_simp
    exact hK _ _ _ rfl (Grew.refl _) rfl
  refine ⟨?_, ?_⟩
  · intro y w2 hG hD K hK
    simp only [depsH, List.getD_cons_zero, List.getD_cons_succ, Is, and_true] at hD
    have h0 := hD.1
    have h1 := hD.2.1
    have h2 := hD.2.2.1
    have h3 := hD.2.2.2
    clear hD
    simp only [fillL, Act.put, List.setIfInBounds_toArray, List.set_cons_zero, List.set_cons_succ, List.getD_cons_zero, List.getD_cons_succ, Is] at hK ⊢
    simp only [h0, h1, h2, h3] at hK ⊢
    clear h0 h1 h2 h3
    refine ite_yes (by rfl) ?_
    go_simp
    exact hK _ _ _ rfl (Grew.refl _) rfl
  refine ⟨?_, ?_⟩
  · intro y w2 hG hD K hK
    simp only [depsH, List.getD_cons_zero, List.getD_cons_succ, Is, and_true] at hD
    have h0 := hD.1
    have h1 := hD.2.1
    have h2 := hD.2.2.1
    have h3 := hD.2.2.2.1
    have h4 := hD.2.2.2.2
    clear hD
    simp only [fillL, Act.put, List.setIfInBounds_toArray, List.set_cons_zero, List.set_cons_succ, List.getD_cons_zero, List.getD_cons_succ, Is] at hK ⊢
    simp only [h0, h1, h2, h3, h4] at hK ⊢
    clear h0 h1 h2 h3 h4
    refine ite_yes (by rfl) ?_
    go_simp
    exact hK _ _ _ rfl (Grew.refl _) rfl
  refine ⟨?_, ?_⟩
  · intro y w2 hG hD K hK
    simp only [depsH, List.getD_cons_zero, List.getD_cons_succ, Is, and_true] at hD
    have h0 := hD.1
    have h1 := hD.2.1
    have h2 := hD.2.2.1
    have h3 := hD.2.2.2.1
    have h4 := hD.2.2.2.2.1
    have h5 := hD.2.2.2.2.2
    clear hD
    simp only [fillL, Act.put, List.setIfInBounds_toArray, List.set_cons_zero, List.set_cons_succ, List.getD_cons_zero, List.getD_cons_succ, Is] at hK ⊢
    simp only [h0, h1, h2, h3, h4, h5] at hK ⊢
    clear h0 h1 h2 h3 h4 h5
    refine ite_yes (by rfl) ?_
    go_simp
    exact hK _ _ _ rfl (Grew.refl _) rfl
  refine ⟨?_, ?_⟩
  · intro y w2 hG hD K hK
    simp only [depsH, List.getD_cons_zero, List.getD_cons_succ, Is, and_true] at hD
    have h0 := hD.1
    have h1 := hD.2.1
    have h2 := hD.2.2.1
    have h3 := hD.2.2.2.1
    have h4 := hD.2.2.2.2.1
    have h5 := hD.2.2.2.2.2.1
    have h6 := hD.2.2.2.2.2.2
    clear hD
    have dcx0 := hG.cell cx0
    have dcx1 := hG.cell cx1
    have dcx2 := hG.cell cx2
    have dcx3 := hG.cell cx3
    have dcx4 := hG.cell cx4
    have dcx5 := hG.cell cx5
    simp only [fillL, Act.put, List.setIfInBounds_toArray, List.set_cons_zero, List.set_cons_succ, List.getD_cons_zero, List.getD_cons_succ, Is] at hK ⊢
    simp only [h0, h1, h2, h3, h4, h5, h6] at hK ⊢
    clear h0 h1 h2 h3 h4 h5 h6
    refine ite_yes (by rfl) ?_
    go_simp
    exact hK _ _ _ rfl (Grew.refl _) rfl
  refine ⟨?_, ?_⟩
  · intro y w2 hG hD K hK
    simp only [depsH, List.getD_cons_zero, List.getD_cons_succ, Is, and_true] at hD
    have h0 := hD.1
    have h1 := hD.2.1
    have h2 := hD.2.2.1
    have h3 := hD.2.2.2.1
    have h4 := hD.2.2.2.2.1
    have h5 := hD.2.2.2.2.2.1
    have h6 := hD.2.2.2.2.2.2
    clear hD
    have dcx0 := hG.cell cx0
    have dcx1 := hG.cell cx1
    have dcx2 := hG.cell cx2
    have dcx3 := hG.cell cx3
    have dcx4 := hG.cell cx4
    have dcx5 := hG.cell cx5
    simp only [fillL, Act.put, List.setIfInBounds_toArray, List.set_cons_zero, List.set_cons_succ, List.getD_cons_zero, List.getD_cons_succ, Is] at hK ⊢
    simp only [h0, h1, h2, h3, h4, h5, h6] at hK ⊢
    clear h0 h1 h2 h3 h4 h5 h6
    refine ite_yes (by rfl) ?_
    go_simp
    exact hK _ _ _ rfl (Grew.refl _) rfl
  refine ⟨?_, ?_⟩
  · intro y w2 hG hD K hK
    simp only [depsH, List.getD_cons_zero, List.getD_cons_succ, Is, and_true] at hD
    have h0 := hD.1
    have h1 := hD.2.1
    have h2 := hD.2.2.1
    have h3 := hD.2.2.2.1
    have h4 := hD.2.2.2.2.1
    have h5 := hD.2.2.2.2.2.1
    have h6 := hD.2.2.2.2.2.2.1
    have h7 := hD.2.2.2.2.2.2.2.1
    have h8 := hD.2.2.2.2.2.2.2.2
    clear hD
    simp only [fillL, Act.put, List.setIfInBounds_toArray, List.set_cons_zero, List.set_cons_succ, List.getD_cons_zero, List.getD_cons_succ, Is] at hK ⊢
    simp only [h0, h1, h2, h3, h4, h5, h6, h7, h8] at hK ⊢
    clear h0 h1 h2 h3 h4 h5 h6 h7 h8
    refine ite_yes (by rfl) ?_
    go_simp
    refine (alike_any X X _ _ _ (HX.out.grew hG) (HX.out.grew hG) (by have := HP.out.sx; omega) (by have := HP.out.sx; omega)).mono ?_
    rintro r w3 ⟨bq, rfl, hbq, hg3⟩
    obtain rfl : bq = true := bool_iff hbq HP.out.self
    exact hK _ _ _ rfl hg3 rfl
  refine ⟨?_, ?_⟩
  · intro y w2 hG hD K hK
    simp only [depsH, List.getD_cons_zero, List.getD_cons_succ, Is, and_true] at hD
    have h0 := hD.1
    have h1 := hD.2.1
    have h2 := hD.2.2.1
    have h3 := hD.2.2.2.1
    have h4 := hD.2.2.2.2.1
    have h5 := hD.2.2.2.2.2.1
    have h6 := hD.2.2.2.2.2.2.1
    have h7 := hD.2.2.2.2.2.2.2.1
    have h8 := hD.2.2.2.2.2.2.2.2.1
    have h9 := hD.2.2.2.2.2.2.2.2.2
    clear hD
    simp only [fillL, Act.put, List.setIfInBounds_toArray, List.set_cons_zero, List.set_cons_succ, List.getD_cons_zero, List.getD_cons_succ, Is] at hK ⊢
    simp only [h0, h1, h2, h3, h4, h5, h6, h7, h8, h9] at hK ⊢
    clear h0 h1 h2 h3 h4 h5 h6 h7 h8 h9
    refine ite_yes (by rfl) ?_
    go_simp
    exact hK _ _ _ rfl (Grew.refl _) rfl
  refine ⟨?_, ?_⟩
  · intro y w2 hG hD K hK
    simp only [depsH, List.getD_cons_zero, List.getD_cons_succ, Is, and_true] at hD
    have h0 := hD.1
    have h1 := hD.2.1
    have h2 := hD.2.2.1
    have h3 := hD.2.2.2.1
    have h4 := hD.2.2.2.2.1
    have h5 := hD.2.2.2.2.2.1
    have h6 := hD.2.2.2.2.2.2.1
    have h7 := hD.2.2.2.2.2.2.2.1
    have h8 := hD.2.2.2.2.2.2.2.2.1
    have h9 := hD.2.2.2.2.2.2.2.2.2.1
    have h10 := hD.2.2.2.2.2.2.2.2.2.2
    clear hD
    simp only [fillL, Act.put, List.setIfInBounds_toArray, List.set_cons_zero, List.set_cons_succ, List.getD_cons_zero, List.getD_cons_succ, Is] at hK ⊢
    simp only [h0, h1, h2, h3, h4, h5, h6, h7, h8, h9, h10] at hK ⊢
    clear h0 h1 h2 h3 h4 h5 h6 h7 h8 h9 h10
    refine ite_yes (by rfl) ?_
    go_simp
    exact hK _ _ _ rfl (Grew.refl _) rfl
  refine ⟨?_, ?_⟩
  · intro y w2 hG hD K hK
    simp only [depsH, List.getD_cons_zero, List.getD_cons_succ, Is, and_true] at hD
    have h0 := hD.1
    have h1 := hD.2.1
    have h2 := hD.2.2.1
    have h3 := hD.2.2.2.1
    have h4 := hD.2.2.2.2.1
    have h5 := hD.2.2.2.2.2.1
    have h6 := hD.2.2.2.2.2.2.1
    have h7 := hD.2.2.2.2.2.2.2.1
    have h8 := hD.2.2.2.2.2.2.2.2.1
    have h9 := hD.2.2.2.2.2.2.2.2.2.1
    have h10 := hD.2.2.2.2.2.2.2.2.2.2.1
    have h11 := hD.2.2.2.2.2.2.2.2.2.2.2
    clear hD
    simp only [fillL, Act.put, List.setIfInBounds_toArray, List.set_cons_zero, List.set_cons_succ, List.getD_cons_zero, List.getD_cons_succ, Is] at hK ⊢
    simp only [h0, h1, h2, h3, h4, h5, h6, h7, h8, h9, h10, h11] at hK ⊢
    clear h0 h1 h2 h3 h4 h5 h6 h7 h8 h9 h10 h11
    refine ite_yes (by rfl) ?_
    go_simp
    exact hK _ _ _ rfl (Grew.refl _) rfl
  refine ⟨?_, ?_⟩
  · intro y w2 hG hD K hK
    simp only [depsH, List.getD_cons_zero, List.getD_cons_succ, Is, and_true] at hD
    have h0 := hD.1
    have h1 := hD.2.1
    have h2 := hD.2.2.1
    have h3 := hD.2.2.2.1
    have h4 := hD.2.2.2.2.1
    have h5 := hD.2.2.2.2.2.1
    have h6 := hD.2.2.2.2.2.2.1
    have h7 := hD.2.2.2.2.2.2.2.1
    have h8 := hD.2.2.2.2.2.2.2.2.1
    have h9 := hD.2.2.2.2.2.2.2.2.2.1
    have h10 := hD.2.2.2.2.2.2.2.2.2.2.1
    have h11 := hD.2.2.2.2.2.2.2.2.2.2.2.1
    have h12 := hD.2.2.2.2.2.2.2.2.2.2.2.2
    clear hD
    have dcp0 := hG.cell cp0
    have dcp1 := hG.cell cp1
    have dcp2 := hG.cell cp2
    have dcp3 := hG.cell cp3
    have dcp4 := hG.cell cp4
    have dcp5 := hG.cell cp5
    simp only [fillL, Act.put, List.setIfInBounds_toArray, List.set_cons_zero, List.set_cons_succ, List.getD_cons_zero, List.getD_cons_succ, Is] at hK ⊢
    simp only [h0, h1, h2, h3, h4, h5, h6, h7, h8, h9, h10, h11, h12] at hK ⊢
    clear h0 h1 h2 h3 h4 h5 h6 h7 h8 h9 h10 h11 h12
    refine ite_yes (by rfl) ?_
    go_simp
    exact hK _ _ _ rfl (Grew.refl _) rfl
  refine ⟨?_, ?_⟩
  · intro y w2 hG hD K hK
    simp only [depsH, List.getD_cons_zero, List.getD_cons_succ, Is, and_true] at hD
    have h0 := hD.1
    have h1 := hD.2.1
    have h2 := hD.2.2.1
    have h3 := hD.2.2.2.1
    have h4 := hD.2.2.2.2.1
    have h5 := hD.2.2.2.2.2.1
    have h6 := hD.2.2.2.2.2.2.1
    have h7 := hD.2.2.2.2.2.2.2.1
    have h8 := hD.2.2.2.2.2.2.2.2.1
    have h9 := hD.2.2.2.2.2.2.2.2.2.1
    have h10 := hD.2.2.2.2.2.2.2.2.2.2.1
    have h11 := hD.2.2.2.2.2.2.2.2.2.2.2.1
    have h12 := hD.2.2.2.2.2.2.2.2.2.2.2.2
    clear hD
    have dcx0 := hG.cell cx0
    have dcx1 := hG.cell cx1
    have dcx2 := hG.cell cx2
    have dcx3 := hG.cell cx3
    have dcx4 := hG.cell cx4
    have dcx5 := hG.cell cx5
    simp only [fillL, Act.put, List.setIfInBounds_toArray, List.set_cons_zero, List.set_cons_succ, List.getD_cons_zero, List.getD_cons_succ, Is] at hK ⊢
    simp only [h0, h1, h2, h3, h4, h5, h6, h7, h8, h9, h10, h11, h12] at hK ⊢
    clear h0 h1 h2 h3 h4 h5 h6 h7 h8 h9 h10 h11 h12
    refine ite_yes (by rfl) ?_
    go_simp
    exact hK _ _ _ rfl (Grew.refl _) rfl
  refine ⟨?_, ?_⟩
  · intro y w2 hG hD K hK
    simp only [depsH, List.getD_cons_zero, List.getD_cons_succ, Is, and_true] at hD
    have h0 := hD.1
    have h1 := hD.2.1
    have h2 := hD.2.2.1
    have h3 := hD.2.2.2.1
    have h4 := hD.2.2.2.2.1
    have h5 := hD.2.2.2.2.2.1
    have h6 := hD.2.2.2.2.2.2.1
    have h7 := hD.2.2.2.2.2.2.2.1
    have h8 := hD.2.2.2.2.2.2.2.2.1
    have h9 := hD.2.2.2.2.2.2.2.2.2.1
    have h10 := hD.2.2.2.2.2.2.2.2.2.2.1
    have h11 := hD.2.2.2.2.2.2.2.2.2.2.2.1
    have h12 := hD.2.2.2.2.2.2.2.2.2.2.2.2.1
    have h13 := hD.2.2.2.2.2.2.2.2.2.2.2.2.2.1
    have h14 := hD.2.2.2.2.2.2.2.2.2.2.2.2.2.2
    clear hD
    simp only [fillL, Act.put, List.setIfInBounds_toArray, List.set_cons_zero, List.set_cons_succ, List.getD_cons_zero, List.getD_cons_succ, Is] at hK ⊢
    simp only [h0, h1, h2, h3, h4, h5, h6, h7, h8, h9, h10, h11, h12, h13, h14] at hK ⊢
    clear h0 h1 h2 h3 h4 h5 h6 h7 h8 h9 h10 h11 h12 h13 h14
    refine ite_yes (by rfl) ?_
    go_simp
    refine (alike_any (norT X) X _ _ _ (HNP.out.grew hG) (HX.out.grew hG) (by have := HP.out.szn; omega) (by have := HP.out.sx; omega)).mono ?_
    rintro r w3 ⟨bq, rfl, hbq, hg3⟩
    obtain rfl : bq = true := bool_iff hbq HP.out.norm
    exact hK _ _ _ rfl hg3 rfl
  refine ⟨?_, ?_⟩
  · intro y w2 hG hD K hK
    simp only [depsH, List.getD_cons_zero, List.getD_cons_succ, Is, and_true] at hD
    have h0 := hD.1
    have h1 := hD.2.1
    have h2 := hD.2.2.1
    have h3 := hD.2.2.2.1
    have h4 := hD.2.2.2.2.1
    have h5 := hD.2.2.2.2.2.1
    have h6 := hD.2.2.2.2.2.2.1
    have h7 := hD.2.2.2.2.2.2.2.1
    have h8 := hD.2.2.2.2.2.2.2.2.1
    have h9 := hD.2.2.2.2.2.2.2.2.2.1
    have h10 := hD.2.2.2.2.2.2.2.2.2.2.1
    have h11 := hD.2.2.2.2.2.2.2.2.2.2.2.1
    have h12 := hD.2.2.2.2.2.2.2.2.2.2.2.2.1
    have h13 := hD.2.2.2.2.2.2.2.2.2.2.2.2.2.1
    have h14 := hD.2.2.2.2.2.2.2.2.2.2.2.2.2.2.1
    have h15 := hD.2.2.2.2.2.2.2.2.2.2.2.2.2.2.2
    clear hD
    simp only [fillL, Act.put, List.setIfInBounds_toArray, List.set_cons_zero, List.set_cons_succ, List.getD_cons_zero, List.getD_cons_succ, Is] at hK ⊢
    simp only [h0, h1, h2, h3, h4, h5, h6, h7, h8, h9, h10, h11, h12, h13, h14, h15] at hK ⊢
    clear h0 h1 h2 h3 h4 h5 h6 h7 h8 h9 h10 h11 h12 h13 h14 h15
    refine ite_yes (by rfl) ?_
    go_simp
    exact hK _ _ _ rfl (Grew.refl _) rfl
  refine ⟨?_, ?_⟩
  · intro y w2 hG hD K hK
    simp only [depsH, List.getD_cons_zero, List.getD_cons_succ, Is, and_true] at hD
    have h0 := hD.1
    have h1 := hD.2.1
    have h2 := hD.2.2.1
    have h3 := hD.2.2.2.1
    have h4 := hD.2.2.2.2.1
    have h5 := hD.2.2.2.2.2.1
    have h6 := hD.2.2.2.2.2.2.1
    have h7 := hD.2.2.2.2.2.2.2.1
    have h8 := hD.2.2.2.2.2.2.2.2.1
    have h9 := hD.2.2.2.2.2.2.2.2.2.1
    have h10 := hD.2.2.2.2.2.2.2.2.2.2.1
    have h11 := hD.2.2.2.2.2.2.2.2.2.2.2.1
    have h12 := hD.2.2.2.2.2.2.2.2.2.2.2.2.1
    have h13 := hD.2.2.2.2.2.2.2.2.2.2.2.2.2.1
    have h14 := hD.2.2.2.2.2.2.2.2.2.2.2.2.2.2.1
    have h15 := hD.2.2.2.2.2.2.2.2.2.2.2.2.2.2.2.1
    have h16 := hD.2.2.2.2.2.2.2.2.2.2.2.2.2.2.2.2
    clear hD
    simp only [fillL, Act.put, List.setIfInBounds_toArray, List.set_cons_zero, List.set_cons_succ, List.getD_cons_zero, List.getD_cons_succ, Is] at hK ⊢
    simp only [h0, h1, h2, h3, h4, h5, h6, h7, h8, h9, h10, h11, h12, h13, h14, h15, h16] at hK ⊢
    clear h0 h1 h2 h3 h4 h5 h6 h7 h8 h9 h10 h11 h12 h13 h14 h15 h16
    refine ite_yes (by rfl) ?_
    go_simp
    exact hK _ _ _ rfl (Grew.refl _) rfl
  refine ⟨?_, ?_⟩
  · intro y w2 hG hD K hK
    simp only [depsH, List.getD_cons_zero, List.getD_cons_succ, Is, and_true] at hD
    have h0 := hD.1
    have h1 := hD.2.1
    have h2 := hD.2.2.1
    have h3 := hD.2.2.2.1
    have h4 := hD.2.2.2.2.1
    have h5 := hD.2.2.2.2.2.1
    have h6 := hD.2.2.2.2.2.2.1
    have h7 := hD.2.2.2.2.2.2.2.1
    have h8 := hD.2.2.2.2.2.2.2.2.1
    have h9 := hD.2.2.2.2.2.2.2.2.2.1
    have h10 := hD.2.2.2.2.2.2.2.2.2.2.1
    have h11 := hD.2.2.2.2.2.2.2.2.2.2.2.1
    have h12 := hD.2.2.2.2.2.2.2.2.2.2.2.2.1
    have h13 := hD.2.2.2.2.2.2.2.2.2.2.2.2.2.1
    have h14 := hD.2.2.2.2.2.2.2.2.2.2.2.2.2.2.1
    have h15 := hD.2.2.2.2.2.2.2.2.2.2.2.2.2.2.2.1
    have h16 := hD.2.2.2.2.2.2.2.2.2.2.2.2.2.2.2.2.1
    have h17 := hD.2.2.2.2.2.2.2.2.2.2.2.2.2.2.2.2.2
    clear hD
    simp only [fillL, Act.put, List.setIfInBounds_toArray, List.set_cons_zero, List.set_cons_succ, List.getD_cons_zero, List.getD_cons_succ, Is] at hK ⊢
    simp only [h0, h1, h2, h3, h4, h5, h6, h7, h8, h9, h10, h11, h12, h13, h14, h15, h16, h17] at hK ⊢
    clear h0 h1 h2 h3 h4 h5 h6 h7 h8 h9 h10 h11 h12 h13 h14 h15 h16 h17
    refine ite_yes (by rfl) ?_
    go_simp
    exact hK _ _ _ rfl (Grew.refl _) rfl
  refine ⟨?_, ?_⟩
  · intro y w2 hG hD K hK
    simp only [depsH, List.getD_cons_zero, List.getD_cons_succ, Is, and_true] at hD
    have h0 := hD.1
    have h1 := hD.2.1
    have h2 := hD.2.2.1
    have h3 := hD.2.2.2.1
    have h4 := hD.2.2.2.2.1
    have h5 := hD.2.2.2.2.2.1
    have h6 := hD.2.2.2.2.2.2.1
    have h7 := hD.2.2.2.2.2.2.2.1
    have h8 := hD.2.2.2.2.2.2.2.2.1
    have h9 := hD.2.2.2.2.2.2.2.2.2.1
    have h10 := hD.2.2.2.2.2.2.2.2.2.2.1
    have h11 := hD.2.2.2.2.2.2.2.2.2.2.2.1
    have h12 := hD.2.2.2.2.2.2.2.2.2.2.2.2.1
    have h13 := hD.2.2.2.2.2.2.2.2.2.2.2.2.2.1
    have h14 := hD.2.2.2.2.2.2.2.2.2.2.2.2.2.2.1
    have h15 := hD.2.2.2.2.2.2.2.2.2.2.2.2.2.2.2.1
    have h16 := hD.2.2.2.2.2.2.2.2.2.2.2.2.2.2.2.2.1
    have h17 := hD.2.2.2.2.2.2.2.2.2.2.2.2.2.2.2.2.2.1
    have h18 := hD.2.2.2.2.2.2.2.2.2.2.2.2.2.2.2.2.2.2
    clear hD
    have dcx0 := hG.cell cx0
    have dcx1 := hG.cell cx1
    have dcx2 := hG.cell cx2
    have dcx3 := hG.cell cx3
    have dcx4 := hG.cell cx4
    have dcx5 := hG.cell cx5
    simp only [fillL, Act.put, List.setIfInBounds_toArray, List.set_cons_zero, List.set_cons_succ, List.getD_cons_zero, List.getD_cons_succ, Is] at hK ⊢
    simp only [h0, h1, h2, h3, h4, h5, h6, h7, h8, h9, h10, h11, h12, h13, h14, h15, h16, h17, h18] at hK ⊢
    clear h0 h1 h2 h3 h4 h5 h6 h7 h8 h9 h10 h11 h12 h13 h14 h15 h16 h17 h18
    refine ite_yes (by rfl) ?_
    go_simp
    exact hK _ _ _ rfl (Grew.refl _) rfl
  refine ⟨?_, ?_⟩
  · intro y w2 hG hD K hK
    simp only [depsH, List.getD_cons_zero, List.getD_cons_succ, Is, and_true] at hD
    have h0 := hD.1
    have h1 := hD.2.1
    have h2 := hD.2.2.1
    have h3 := hD.2.2.2.1
    have h4 := hD.2.2.2.2.1
    have h5 := hD.2.2.2.2.2.1
    have h6 := hD.2.2.2.2.2.2.1
    have h7 := hD.2.2.2.2.2.2.2.1
    have h8 := hD.2.2.2.2.2.2.2.2.1
    have h9 := hD.2.2.2.2.2.2.2.2.2.1
    have h10 := hD.2.2.2.2.2.2.2.2.2.2.1
    have h11 := hD.2.2.2.2.2.2.2.2.2.2.2.1
    have h12 := hD.2.2.2.2.2.2.2.2.2.2.2.2.1
    have h13 := hD.2.2.2.2.2.2.2.2.2.2.2.2.2.1
    have h14 := hD.2.2.2.2.2.2.2.2.2.2.2.2.2.2.1
    have h15 := hD.2.2.2.2.2.2.2.2.2.2.2.2.2.2.2.1
    have h16 := hD.2.2.2.2.2.2.2.2.2.2.2.2.2.2.2.2.1
    have h17 := hD.2.2.2.2.2.2.2.2.2.2.2.2.2.2.2.2.2.1
    have h18 := hD.2.2.2.2.2.2.2.2.2.2.2.2.2.2.2.2.2.2
    clear hD
    have dcy0 := hG.cell cy0
    have dcy1 := hG.cell cy1
    have dcy2 := hG.cell cy2
    have dcy3 := hG.cell cy3
    have dcy4 := hG.cell cy4
    have dcy5 := hG.cell cy5
    simp only [fillL, Act.put, List.setIfInBounds_toArray, List.set_cons_zero, List.set_cons_succ, List.getD_cons_zero, List.getD_cons_succ, Is] at hK ⊢
    simp only [h0, h1, h2, h3, h4, h5, h6, h7, h8, h9, h10, h11, h12, h13, h14, h15, h16, h17, h18] at hK ⊢
    clear h0 h1 h2 h3 h4 h5 h6 h7 h8 h9 h10 h11 h12 h13 h14 h15 h16 h17 h18
    refine ite_yes (by rfl) ?_
    go_simp
    exact hK _ _ _ rfl (Grew.refl _) rfl
  refine ⟨?_, ?_⟩
  · intro y w2 hG hD K hK
    simp only [depsH, List.getD_cons_zero, List.getD_cons_succ, Is, and_true] at hD
    have h0 := hD.1
    have h1 := hD.2.1
    have h2 := hD.2.2.1
    have h3 := hD.2.2.2.1
    have h4 := hD.2.2.2.2.1
    have h5 := hD.2.2.2.2.2.1
    have h6 := hD.2.2.2.2.2.2.1
    have h7 := hD.2.2.2.2.2.2.2.1
    have h8 := hD.2.2.2.2.2.2.2.2.1
    have h9 := hD.2.2.2.2.2.2.2.2.2.1
    have h10 := hD.2.2.2.2.2.2.2.2.2.2.1
    have h11 := hD.2.2.2.2.2.2.2.2.2.2.2.1
    have h12 := hD.2.2.2.2.2.2.2.2.2.2.2.2.1
    have h13 := hD.2.2.2.2.2.2.2.2.2.2.2.2.2.1
    have h14 := hD.2.2.2.2.2.2.2.2.2.2.2.2.2.2.1
    have h15 := hD.2.2.2.2.2.2.2.2.2.2.2.2.2.2.2.1
    have h16 := hD.2.2.2.2.2.2.2.2.2.2.2.2.2.2.2.2.1
    have h17 := hD.2.2.2.2.2.2.2.2.2.2.2.2.2.2.2.2.2.1
    have h18 := hD.2.2.2.2.2.2.2.2.2.2.2.2.2.2.2.2.2.2.1
    have h19 := hD.2.2.2.2.2.2.2.2.2.2.2.2.2.2.2.2.2.2.2.1
    have h20 := hD.2.2.2.2.2.2.2.2.2.2.2.2.2.2.2.2.2.2.2.2
    clear hD
    simp only [fillL, Act.put, List.setIfInBounds_toArray, List.set_cons_zero, List.set_cons_succ, List.getD_cons_zero, List.getD_cons_succ, Is] at hK ⊢
    simp only [h0, h1, h2, h3, h4, h5, h6, h7, h8, h9, h10, h11, h12, h13, h14, h15, h16, h17, h18, h19, h20] at hK ⊢
    clear h0 h1 h2 h3 h4 h5 h6 h7 h8 h9 h10 h11 h12 h13 h14 h15 h16 h17 h18 h19 h20
    refine ite_yes (by rfl) ?_
    go_simp
    refine (alike_any X Y _ _ _ (HX.out.grew hG) (HY.out.grew hG) (by have := HP.out.sx; omega) (by have := HP.out.sy; omega)).mono ?_
    rintro r w3 ⟨bq, rfl, hbq, hg3⟩
    obtain rfl : ab = bq := bool_of HAB.out hbq
    exact hK _ _ _ rfl hg3 rfl
  refine ⟨?_, ?_⟩
  · intro y w2 hG hD K hK
    simp only [depsH, List.getD_cons_zero, List.getD_cons_succ, Is, and_true] at hD
    have h0 := hD.1
    have h1 := hD.2.1
    have h2 := hD.2.2.1
    have h3 := hD.2.2.2.1
    have h4 := hD.2.2.2.2.1
    have h5 := hD.2.2.2.2.2.1
    have h6 := hD.2.2.2.2.2.2.1
    have h7 := hD.2.2.2.2.2.2.2.1
    have h8 := hD.2.2.2.2.2.2.2.2.1
    have h9 := hD.2.2.2.2.2.2.2.2.2.1
    have h10 := hD.2.2.2.2.2.2.2.2.2.2.1
    have h11 := hD.2.2.2.2.2.2.2.2.2.2.2.1
    have h12 := hD.2.2.2.2.2.2.2.2.2.2.2.2.1
    have h13 := hD.2.2.2.2.2.2.2.2.2.2.2.2.2.1
    have h14 := hD.2.2.2.2.2.2.2.2.2.2.2.2.2.2.1
    have h15 := hD.2.2.2.2.2.2.2.2.2.2.2.2.2.2.2.1
    have h16 := hD.2.2.2.2.2.2.2.2.2.2.2.2.2.2.2.2.1
    have h17 := hD.2.2.2.2.2.2.2.2.2.2.2.2.2.2.2.2.2.1
    have h18 := hD.2.2.2.2.2.2.2.2.2.2.2.2.2.2.2.2.2.2
    clear hD
    have dcy0 := hG.cell cy0
    have dcy1 := hG.cell cy1
    have dcy2 := hG.cell cy2
    have dcy3 := hG.cell cy3
    have dcy4 := hG.cell cy4
    have dcy5 := hG.cell cy5
    simp only [fillL, Act.put, List.setIfInBounds_toArray, List.set_cons_zero, List.set_cons_succ, List.getD_cons_zero, List.getD_cons_succ, Is] at hK ⊢
    simp only [h0, h1, h2, h3, h4, h5, h6, h7, h8, h9, h10, h11, h12, h13, h14, h15, h16, h17, h18] at hK ⊢
    clear h0 h1 h2 h3 h4 h5 h6 h7 h8 h9 h10 h11 h12 h13 h14 h15 h16 h17 h18
    refine ite_yes (by rfl) ?_
    go_simp
    exact hK _ _ _ rfl (Grew.refl _) rfl
  refine ⟨?_, ?_⟩
  · intro y w2 hG hD K hK
    simp only [depsH, List.getD_cons_zero, List.getD_cons_succ, Is, and_true] at hD
    have h0 := hD.1
    have h1 := hD.2.1
    have h2 := hD.2.2.1
    have h3 := hD.2.2.2.1
    have h4 := hD.2.2.2.2.1
    have h5 := hD.2.2.2.2.2.1
    have h6 := hD.2.2.2.2.2.2.1
    have h7 := hD.2.2.2.2.2.2.2.1
    have h8 := hD.2.2.2.2.2.2.2.2.1
    have h9 := hD.2.2.2.2.2.2.2.2.2.1
    have h10 := hD.2.2.2.2.2.2.2.2.2.2.1
    have h11 := hD.2.2.2.2.2.2.2.2.2.2.2.1
    have h12 := hD.2.2.2.2.2.2.2.2.2.2.2.2.1
    have h13 := hD.2.2.2.2.2.2.2.2.2.2.2.2.2.1
    have h14 := hD.2.2.2.2.2.2.2.2.2.2.2.2.2.2.1
    have h15 := hD.2.2.2.2.2.2.2.2.2.2.2.2.2.2.2.1
    have h16 := hD.2.2.2.2.2.2.2.2.2.2.2.2.2.2.2.2.1
    have h17 := hD.2.2.2.2.2.2.2.2.2.2.2.2.2.2.2.2.2.1
    have h18 := hD.2.2.2.2.2.2.2.2.2.2.2.2.2.2.2.2.2.2
    clear hD
    have dcx0 := hG.cell cx0
    have dcx1 := hG.cell cx1
    have dcx2 := hG.cell cx2
    have dcx3 := hG.cell cx3
    have dcx4 := hG.cell cx4
    have dcx5 := hG.cell cx5
    simp only [fillL, Act.put, List.setIfInBounds_toArray, List.set_cons_zero, List.set_cons_succ, List.getD_cons_zero, List.getD_cons_succ, Is] at hK ⊢
    simp only [h0, h1, h2, h3, h4, h5, h6, h7, h8, h9, h10, h11, h12, h13, h14, h15, h16, h17, h18] at hK ⊢
    clear h0 h1 h2 h3 h4 h5 h6 h7 h8 h9 h10 h11 h12 h13 h14 h15 h16 h17 h18
    refine ite_yes (by rfl) ?_
    go_simp
    exact hK _ _ _ rfl (Grew.refl _) rfl
  refine ⟨?_, ?_⟩
  · intro y w2 hG hD K hK
    simp only [depsH, List.getD_cons_zero, List.getD_cons_succ, Is, and_true] at hD
    have h0 := hD.1
    have h1 := hD.2.1
    have h2 := hD.2.2.1
    have h3 := hD.2.2.2.1
    have h4 := hD.2.2.2.2.1
    have h5 := hD.2.2.2.2.2.1
    have h6 := hD.2.2.2.2.2.2.1
    have h7 := hD.2.2.2.2.2.2.2.1
    have h8 := hD.2.2.2.2.2.2.2.2.1
    have h9 := hD.2.2.2.2.2.2.2.2.2.1
    have h10 := hD.2.2.2.2.2.2.2.2.2.2.1
    have h11 := hD.2.2.2.2.2.2.2.2.2.2.2.1
    have h12 := hD.2.2.2.2.2.2.2.2.2.2.2.2.1
    have h13 := hD.2.2.2.2.2.2.2.2.2.2.2.2.2.1
    have h14 := hD.2.2.2.2.2.2.2.2.2.2.2.2.2.2.1
    have h15 := hD.2.2.2.2.2.2.2.2.2.2.2.2.2.2.2.1
    have h16 := hD.2.2.2.2.2.2.2.2.2.2.2.2.2.2.2.2.1
    have h17 := hD.2.2.2.2.2.2.2.2.2.2.2.2.2.2.2.2.2.1
    have h18 := hD.2.2.2.2.2.2.2.2.2.2.2.2.2.2.2.2.2.2.1
    have h19 := hD.2.2.2.2.2.2.2.2.2.2.2.2.2.2.2.2.2.2.2.1
    have h20 := hD.2.2.2.2.2.2.2.2.2.2.2.2.2.2.2.2.2.2.2.2.1
    have h21 := hD.2.2.2.2.2.2.2.2.2.2.2.2.2.2.2.2.2.2.2.2.2.1
    have h22 := hD.2.2.2.2.2.2.2.2.2.2.2.2.2.2.2.2.2.2.2.2.2.2.1
    have h23 := hD.2.2.2.2.2.2.2.2.2.2.2.2.2.2.2.2.2.2.2.2.2.2.2
    clear hD
    simp only [fillL, Act.put, List.setIfInBounds_toArray, List.set_cons_zero, List.set_cons_succ, List.getD_cons_zero, List.getD_cons_succ, Is] at hK ⊢
    simp only [h0, h1, h2, h3, h4, h5, h6, h7, h8, h9, h10, h11, h12, h13, h14, h15, h16, h17, h18, h19, h20, h21, h22, h23] at hK ⊢
    clear h0 h1 h2 h3 h4 h5 h6 h7 h8 h9 h10 h11 h12 h13 h14 h15 h16 h17 h18 h19 h20 h21 h22 h23
    refine ite_yes (by rfl) ?_
    go_simp
    refine (alike_any Y X _ _ _ (HY.out.grew hG) (HX.out.grew hG) (by have := HP.out.sy; omega) (by have := HP.out.sx; omega)).mono ?_
    rintro r w3 ⟨bq, rfl, hbq, hg3⟩
    obtain rfl : ab = bq := bool_of HAB.out (hbq.trans HP.out.comm.symm)
    exact hK _ _ _ rfl hg3 rfl
  refine ⟨?_, ?_⟩
  · intro y w2 hG hD K hK
    simp only [depsH, List.getD_cons_zero, List.getD_cons_succ, Is, and_true] at hD
    have h0 := hD.1
    have h1 := hD.2.1
    have h2 := hD.2.2.1
    have h3 := hD.2.2.2.1
    have h4 := hD.2.2.2.2.1
    have h5 := hD.2.2.2.2.2.1
    have h6 := hD.2.2.2.2.2.2.1
    have h7 := hD.2.2.2.2.2.2.2.1
    have h8 := hD.2.2.2.2.2.2.2.2.1
    have h9 := hD.2.2.2.2.2.2.2.2.2.1
    have h10 := hD.2.2.2.2.2.2.2.2.2.2.1
    have h11 := hD.2.2.2.2.2.2.2.2.2.2.2.1
    have h12 := hD.2.2.2.2.2.2.2.2.2.2.2.2.1
    have h13 := hD.2.2.2.2.2.2.2.2.2.2.2.2.2.1
    have h14 := hD.2.2.2.2.2.2.2.2.2.2.2.2.2.2.1
    have h15 := hD.2.2.2.2.2.2.2.2.2.2.2.2.2.2.2.1
    have h16 := hD.2.2.2.2.2.2.2.2.2.2.2.2.2.2.2.2.1
    have h17 := hD.2.2.2.2.2.2.2.2.2.2.2.2.2.2.2.2.2.1
    have h18 := hD.2.2.2.2.2.2.2.2.2.2.2.2.2.2.2.2.2.2.1
    have h19 := hD.2.2.2.2.2.2.2.2.2.2.2.2.2.2.2.2.2.2.2.1
    have h20 := hD.2.2.2.2.2.2.2.2.2.2.2.2.2.2.2.2.2.2.2.2.1
    have h21 := hD.2.2.2.2.2.2.2.2.2.2.2.2.2.2.2.2.2.2.2.2.2.1
    have h22 := hD.2.2.2.2.2.2.2.2.2.2.2.2.2.2.2.2.2.2.2.2.2.2.1
    have h23 := hD.2.2.2.2.2.2.2.2.2.2.2.2.2.2.2.2.2.2.2.2.2.2.2.1
    have h24 := hD.2.2.2.2.2.2.2.2.2.2.2.2.2.2.2.2.2.2.2.2.2.2.2.2
    clear hD
    simp only [fillL, Act.put, List.setIfInBounds_toArray, List.set_cons_zero, List.set_cons_succ, List.getD_cons_zero, List.getD_cons_succ, Is] at hK ⊢
    simp only [h0, h1, h2, h3, h4, h5, h6, h7, h8, h9, h10, h11, h12, h13, h14, h15, h16, h17, h18, h19, h20, h21, h22, h23, h24] at hK ⊢
    clear h0 h1 h2 h3 h4 h5 h6 h7 h8 h9 h10 h11 h12 h13 h14 h15 h16 h17 h18 h19 h20 h21 h22 h23 h24
    refine ite_yes (by rfl) ?_
    go_simp
    exact hK _ _ _ rfl (Grew.refl _) (by cases ab <;> rfl)
  refine ⟨?_, ?_⟩
  · intro y w2 hG hD K hK
    simp only [depsH, List.getD_cons_zero, List.getD_cons_succ, Is, and_true] at hD
    have h0 := hD.1
    have h1 := hD.2.1
    have h2 := hD.2.2.1
    have h3 := hD.2.2.2.1
    have h4 := hD.2.2.2.2.1
    have h5 := hD.2.2.2.2.2.1
    have h6 := hD.2.2.2.2.2.2.1
    have h7 := hD.2.2.2.2.2.2.2.1
    have h8 := hD.2.2.2.2.2.2.2.2.1
    have h9 := hD.2.2.2.2.2.2.2.2.2.1
    have h10 := hD.2.2.2.2.2.2.2.2.2.2.1
    have h11 := hD.2.2.2.2.2.2.2.2.2.2.2.1
    have h12 := hD.2.2.2.2.2.2.2.2.2.2.2.2.1
    have h13 := hD.2.2.2.2.2.2.2.2.2.2.2.2.2.1
    have h14 := hD.2.2.2.2.2.2.2.2.2.2.2.2.2.2.1
    have h15 := hD.2.2.2.2.2.2.2.2.2.2.2.2.2.2.2.1
    have h16 := hD.2.2.2.2.2.2.2.2.2.2.2.2.2.2.2.2.1
    have h17 := hD.2.2.2.2.2.2.2.2.2.2.2.2.2.2.2.2.2.1
    have h18 := hD.2.2.2.2.2.2.2.2.2.2.2.2.2.2.2.2.2.2.1
    have h19 := hD.2.2.2.2.2.2.2.2.2.2.2.2.2.2.2.2.2.2.2.1
    have h20 := hD.2.2.2.2.2.2.2.2.2.2.2.2.2.2.2.2.2.2.2.2.1
    have h21 := hD.2.2.2.2.2.2.2.2.2.2.2.2.2.2.2.2.2.2.2.2.2.1
    have h22 := hD.2.2.2.2.2.2.2.2.2.2.2.2.2.2.2.2.2.2.2.2.2.2.1
    have h23 := hD.2.2.2.2.2.2.2.2.2.2.2.2.2.2.2.2.2.2.2.2.2.2.2.1
    have h24 := hD.2.2.2.2.2.2.2.2.2.2.2.2.2.2.2.2.2.2.2.2.2.2.2.2.1
    have h25 := hD.2.2.2.2.2.2.2.2.2.2.2.2.2.2.2.2.2.2.2.2.2.2.2.2.2
    clear hD
    simp only [fillL, Act.put, List.setIfInBounds_toArray, List.set_cons_zero, List.set_cons_succ, List.getD_cons_zero, List.getD_cons_succ, Is] at hK ⊢
    simp only [h0, h1, h2, h3, h4, h5, h6, h7, h8, h9, h10, h11, h12, h13, h14, h15, h16, h17, h18, h19, h20, h21, h22, h23, h24, h25] at hK ⊢
    clear h0 h1 h2 h3 h4 h5 h6 h7 h8 h9 h10 h11 h12 h13 h14 h15 h16 h17 h18 h19 h20 h21 h22 h23 h24 h25
    refine ite_yes (by rfl) ?_
    go_simp
    exact hK _ _ _ rfl (Grew.refl _) rfl
  refine ⟨?_, ?_⟩
  · intro y w2 hG hD K hK
    simp only [depsH, List.getD_cons_zero, List.getD_cons_succ, Is, and_true] at hD
    have h0 := hD.1
    have h1 := hD.2.1
    have h2 := hD.2.2.1
    have h3 := hD.2.2.2.1
    have h4 := hD.2.2.2.2.1
    have h5 := hD.2.2.2.2.2.1
    have h6 := hD.2.2.2.2.2.2.1
    have h7 := hD.2.2.2.2.2.2.2.1
    have h8 := hD.2.2.2.2.2.2.2.2.1
    have h9 := hD.2.2.2.2.2.2.2.2.2.1
    have h10 := hD.2.2.2.2.2.2.2.2.2.2.1
    have h11 := hD.2.2.2.2.2.2.2.2.2.2.2.1
    have h12 := hD.2.2.2.2.2.2.2.2.2.2.2.2.1
    have h13 := hD.2.2.2.2.2.2.2.2.2.2.2.2.2.1
    have h14 := hD.2.2.2.2.2.2.2.2.2.2.2.2.2.2.1
    have h15 := hD.2.2.2.2.2.2.2.2.2.2.2.2.2.2.2.1
    have h16 := hD.2.2.2.2.2.2.2.2.2.2.2.2.2.2.2.2.1
    have h17 := hD.2.2.2.2.2.2.2.2.2.2.2.2.2.2.2.2.2.1
    have h18 := hD.2.2.2.2.2.2.2.2.2.2.2.2.2.2.2.2.2.2.1
    have h19 := hD.2.2.2.2.2.2.2.2.2.2.2.2.2.2.2.2.2.2.2.1
    have h20 := hD.2.2.2.2.2.2.2.2.2.2.2.2.2.2.2.2.2.2.2.2.1
    have h21 := hD.2.2.2.2.2.2.2.2.2.2.2.2.2.2.2.2.2.2.2.2.2.1
    have h22 := hD.2.2.2.2.2.2.2.2.2.2.2.2.2.2.2.2.2.2.2.2.2.2.1
    have h23 := hD.2.2.2.2.2.2.2.2.2.2.2.2.2.2.2.2.2.2.2.2.2.2.2.1
    have h24 := hD.2.2.2.2.2.2.2.2.2.2.2.2.2.2.2.2.2.2.2.2.2.2.2.2.1
    have h25 := hD.2.2.2.2.2.2.2.2.2.2.2.2.2.2.2.2.2.2.2.2.2.2.2.2.2.1
    have h26 := hD.2.2.2.2.2.2.2.2.2.2.2.2.2.2.2.2.2.2.2.2.2.2.2.2.2.2
    clear hD
    simp only [fillL, Act.put, List.setIfInBounds_toArray, List.set_cons_zero, List.set_cons_succ, List.getD_cons_zero, List.getD_cons_succ, Is] at hK ⊢
    simp only [h0, h1, h2, h3, h4, h5, h6, h7, h8, h9, h10, h11, h12, h13, h14, h15, h16, h17, h18, h19, h20, h21, h22, h23, h24, h25, h26] at hK ⊢
    clear h0 h1 h2 h3 h4 h5 h6 h7 h8 h9 h10 h11 h12 h13 h14 h15 h16 h17 h18 h19 h20 h21 h22 h23 h24 h25 h26
    refine ite_yes (by rfl) ?_
    go_simp
    exact hK _ _ _ rfl (Grew.refl _) rfl
  refine ⟨?_, ?_⟩
  · intro y w2 hG hD K hK
    simp only [depsH, List.getD_cons_zero, List.getD_cons_succ, Is, and_true] at hD
    have h0 := hD.1
    have h1 := hD.2.1
    have h2 := hD.2.2.1
    have h3 := hD.2.2.2.1
    have h4 := hD.2.2.2.2.1
    have h5 := hD.2.2.2.2.2.1
    have h6 := hD.2.2.2.2.2.2.1
    have h7 := hD.2.2.2.2.2.2.2.1
    have h8 := hD.2.2.2.2.2.2.2.2.1
    have h9 := hD.2.2.2.2.2.2.2.2.2.1
    have h10 := hD.2.2.2.2.2.2.2.2.2.2.1
    have h11 := hD.2.2.2.2.2.2.2.2.2.2.2.1
    have h12 := hD.2.2.2.2.2.2.2.2.2.2.2.2.1
    have h13 := hD.2.2.2.2.2.2.2.2.2.2.2.2.2.1
    have h14 := hD.2.2.2.2.2.2.2.2.2.2.2.2.2.2.1
    have h15 := hD.2.2.2.2.2.2.2.2.2.2.2.2.2.2.2.1
    have h16 := hD.2.2.2.2.2.2.2.2.2.2.2.2.2.2.2.2.1
    have h17 := hD.2.2.2.2.2.2.2.2.2.2.2.2.2.2.2.2.2.1
    have h18 := hD.2.2.2.2.2.2.2.2.2.2.2.2.2.2.2.2.2.2.1
    have h19 := hD.2.2.2.2.2.2.2.2.2.2.2.2.2.2.2.2.2.2.2.1
    have h20 := hD.2.2.2.2.2.2.2.2.2.2.2.2.2.2.2.2.2.2.2.2.1
    have h21 := hD.2.2.2.2.2.2.2.2.2.2.2.2.2.2.2.2.2.2.2.2.2.1
    have h22 := hD.2.2.2.2.2.2.2.2.2.2.2.2.2.2.2.2.2.2.2.2.2.2.1
    have h23 := hD.2.2.2.2.2.2.2.2.2.2.2.2.2.2.2.2.2.2.2.2.2.2.2.1
    have h24 := hD.2.2.2.2.2.2.2.2.2.2.2.2.2.2.2.2.2.2.2.2.2.2.2.2.1
    have h25 := hD.2.2.2.2.2.2.2.2.2.2.2.2.2.2.2.2.2.2.2.2.2.2.2.2.2.1
    have h26 := hD.2.2.2.2.2.2.2.2.2.2.2.2.2.2.2.2.2.2.2.2.2.2.2.2.2.2.1
    have h27 := hD.2.2.2.2.2.2.2.2.2.2.2.2.2.2.2.2.2.2.2.2.2.2.2.2.2.2.2
    clear hD
    have dcx0 := hG.cell cx0
    have dcx1 := hG.cell cx1
    have dcx2 := hG.cell cx2
    have dcx3 := hG.cell cx3
    have dcx4 := hG.cell cx4
    have dcx5 := hG.cell cx5
    simp only [fillL, Act.put, List.setIfInBounds_toArray, List.set_cons_zero, List.set_cons_succ, List.getD_cons_zero, List.getD_cons_succ, Is] at hK ⊢
    simp only [h0, h1, h2, h3, h4, h5, h6, h7, h8, h9, h10, h11, h12, h13, h14, h15, h16, h17, h18, h19, h20, h21, h22, h23, h24, h25, h26, h27] at hK ⊢
    clear h0 h1 h2 h3 h4 h5 h6 h7 h8 h9 h10 h11 h12 h13 h14 h15 h16 h17 h18 h19 h20 h21 h22 h23 h24 h25 h26 h27
    refine ite_yes (by rfl) ?_
    go_simp
    exact hK _ _ _ rfl (Grew.refl _) rfl
  refine ⟨?_, ?_⟩
  · intro y w2 hG hD K hK
    simp only [depsH, List.getD_cons_zero, List.getD_cons_succ, Is, and_true] at hD
    have h0 := hD.1
    have h1 := hD.2.1
    have h2 := hD.2.2.1
    have h3 := hD.2.2.2.1
    have h4 := hD.2.2.2.2.1
    have h5 := hD.2.2.2.2.2.1
    have h6 := hD.2.2.2.2.2.2.1
    have h7 := hD.2.2.2.2.2.2.2.1
    have h8 := hD.2.2.2.2.2.2.2.2.1
    have h9 := hD.2.2.2.2.2.2.2.2.2.1
    have h10 := hD.2.2.2.2.2.2.2.2.2.2.1
    have h11 := hD.2.2.2.2.2.2.2.2.2.2.2.1
    have h12 := hD.2.2.2.2.2.2.2.2.2.2.2.2.1
    have h13 := hD.2.2.2.2.2.2.2.2.2.2.2.2.2.1
    have h14 := hD.2.2.2.2.2.2.2.2.2.2.2.2.2.2.1
    have h15 := hD.2.2.2.2.2.2.2.2.2.2.2.2.2.2.2.1
    have h16 := hD.2.2.2.2.2.2.2.2.2.2.2.2.2.2.2.2.1
    have h17 := hD.2.2.2.2.2.2.2.2.2.2.2.2.2.2.2.2.2.1
    have h18 := hD.2.2.2.2.2.2.2.2.2.2.2.2.2.2.2.2.2.2.1
    have h19 := hD.2.2.2.2.2.2.2.2.2.2.2.2.2.2.2.2.2.2.2.1
    have h20 := hD.2.2.2.2.2.2.2.2.2.2.2.2.2.2.2.2.2.2.2.2.1
    have h21 := hD.2.2.2.2.2.2.2.2.2.2.2.2.2.2.2.2.2.2.2.2.2.1
    have h22 := hD.2.2.2.2.2.2.2.2.2.2.2.2.2.2.2.2.2.2.2.2.2.2.1
    have h23 := hD.2.2.2.2.2.2.2.2.2.2.2.2.2.2.2.2.2.2.2.2.2.2.2.1
    have h24 := hD.2.2.2.2.2.2.2.2.2.2.2.2.2.2.2.2.2.2.2.2.2.2.2.2.1
    have h25 := hD.2.2.2.2.2.2.2.2.2.2.2.2.2.2.2.2.2.2.2.2.2.2.2.2.2.1
    have h26 := hD.2.2.2.2.2.2.2.2.2.2.2.2.2.2.2.2.2.2.2.2.2.2.2.2.2.2.1
    have h27 := hD.2.2.2.2.2.2.2.2.2.2.2.2.2.2.2.2.2.2.2.2.2.2.2.2.2.2.2
    clear hD
    have dcy0 := hG.cell cy0
    have dcy1 := hG.cell cy1
    have dcy2 := hG.cell cy2
    have dcy3 := hG.cell cy3
    have dcy4 := hG.cell cy4
    have dcy5 := hG.cell cy5
    simp only [fillL, Act.put, List.setIfInBounds_toArray, List.set_cons_zero, List.set_cons_succ, List.getD_cons_zero, List.getD_cons_succ, Is] at hK ⊢
    simp only [h0, h1, h2, h3, h4, h5, h6, h7, h8, h9, h10, h11, h12, h13, h14, h15, h16, h17, h18, h19, h20, h21, h22, h23, h24, h25, h26, h27] at hK ⊢
    clear h0 h1 h2 h3 h4 h5 h6 h7 h8 h9 h10 h11 h12 h13 h14 h15 h16 h17 h18 h19 h20 h21 h22 h23 h24 h25 h26 h27
    refine ite_yes (by rfl) ?_
    go_simp
    exact hK _ _ _ rfl (Grew.refl _) rfl
  refine ⟨?_, ?_⟩
  · intro y w2 hG hD K hK
    simp only [depsH, List.getD_cons_zero, List.getD_cons_succ, Is, and_true] at hD
    have h0 := hD.1
    have h1 := hD.2.1
    have h2 := hD.2.2.1
    have h3 := hD.2.2.2.1
    have h4 := hD.2.2.2.2.1
    have h5 := hD.2.2.2.2.2.1
    have h6 := hD.2.2.2.2.2.2.1
    have h7 := hD.2.2.2.2.2.2.2.1
    have h8 := hD.2.2.2.2.2.2.2.2.1
    have h9 := hD.2.2.2.2.2.2.2.2.2.1
    have h10 := hD.2.2.2.2.2.2.2.2.2.2.1
    have h11 := hD.2.2.2.2.2.2.2.2.2.2.2.1
    have h12 := hD.2.2.2.2.2.2.2.2.2.2.2.2.1
    have h13 := hD.2.2.2.2.2.2.2.2.2.2.2.2.2.1
    have h14 := hD.2.2.2.2.2.2.2.2.2.2.2.2.2.2.1
    have h15 := hD.2.2.2.2.2.2.2.2.2.2.2.2.2.2.2.1
    have h16 := hD.2.2.2.2.2.2.2.2.2.2.2.2.2.2.2.2.1
    have h17 := hD.2.2.2.2.2.2.2.2.2.2.2.2.2.2.2.2.2.1
    have h18 := hD.2.2.2.2.2.2.2.2.2.2.2.2.2.2.2.2.2.2.1
    have h19 := hD.2.2.2.2.2.2.2.2.2.2.2.2.2.2.2.2.2.2.2.1
    have h20 := hD.2.2.2.2.2.2.2.2.2.2.2.2.2.2.2.2.2.2.2.2.1
    have h21 := hD.2.2.2.2.2.2.2.2.2.2.2.2.2.2.2.2.2.2.2.2.2.1
    have h22 := hD.2.2.2.2.2.2.2.2.2.2.2.2.2.2.2.2.2.2.2.2.2.2.1
    have h23 := hD.2.2.2.2.2.2.2.2.2.2.2.2.2.2.2.2.2.2.2.2.2.2.2.1
    have h24 := hD.2.2.2.2.2.2.2.2.2.2.2.2.2.2.2.2.2.2.2.2.2.2.2.2.1
    have h25 := hD.2.2.2.2.2.2.2.2.2.2.2.2.2.2.2.2.2.2.2.2.2.2.2.2.2.1
    have h26 := hD.2.2.2.2.2.2.2.2.2.2.2.2.2.2.2.2.2.2.2.2.2.2.2.2.2.2.1
    have h27 := hD.2.2.2.2.2.2.2.2.2.2.2.2.2.2.2.2.2.2.2.2.2.2.2.2.2.2.2.1
    have h28 := hD.2.2.2.2.2.2.2.2.2.2.2.2.2.2.2.2.2.2.2.2.2.2.2.2.2.2.2.2.1
    have h29 := hD.2.2.2.2.2.2.2.2.2.2.2.2.2.2.2.2.2.2.2.2.2.2.2.2.2.2.2.2.2
    clear hD
    simp only [fillL, Act.put, List.setIfInBounds_toArray, List.set_cons_zero, List.set_cons_succ, List.getD_cons_zero, List.getD_cons_succ, Is] at hK ⊢
    simp only [h0, h1, h2, h3, h4, h5, h6, h7, h8, h9, h10, h11, h12, h13, h14, h15, h16, h17, h18, h19, h20, h21, h22, h23, h24, h25, h26, h27, h28, h29] at hK ⊢
    clear h0 h1 h2 h3 h4 h5 h6 h7 h8 h9 h10 h11 h12 h13 h14 h15 h16 h17 h18 h19 h20 h21 h22 h23 h24 h25 h26 h27 h28 h29
    refine ite_yes (by rfl) ?_
    go_simp
    refine (alike_any X Y _ _ _ (HX.out.grew hG) (HY.out.grew hG) (by have := HP.out.sx; omega) (by have := HP.out.sy; omega)).mono ?_
    rintro r w3 ⟨bq, rfl, hbq, hg3⟩
    obtain rfl : ab = bq := bool_of HAB.out hbq
    exact hK _ _ _ rfl hg3 rfl
  refine ⟨?_, ?_⟩
  · intro y w2 hG hD K hK
    simp only [depsH, List.getD_cons_zero, List.getD_cons_succ, Is, and_true] at hD
    have h0 := hD.1
    have h1 := hD.2.1
    have h2 := hD.2.2.1
    have h3 := hD.2.2.2.1
    have h4 := hD.2.2.2.2.1
    have h5 := hD.2.2.2.2.2.1
    have h6 := hD.2.2.2.2.2.2.1
    have h7 := hD.2.2.2.2.2.2.2.1
    have h8 := hD.2.2.2.2.2.2.2.2.1
    have h9 := hD.2.2.2.2.2.2.2.2.2.1
    have h10 := hD.2.2.2.2.2.2.2.2.2.2.1
    have h11 := hD.2.2.2.2.2.2.2.2.2.2.2.1
    have h12 := hD.2.2.2.2.2.2.2.2.2.2.2.2.1
    have h13 := hD.2.2.2.2.2.2.2.2.2.2.2.2.2.1
    have h14 := hD.2.2.2.2.2.2.2.2.2.2.2.2.2.2.1
    have h15 := hD.2.2.2.2.2.2.2.2.2.2.2.2.2.2.2.1
    have h16 := hD.2.2.2.2.2.2.2.2.2.2.2.2.2.2.2.2.1
    have h17 := hD.2.2.2.2.2.2.2.2.2.2.2.2.2.2.2.2.2.1
    have h18 := hD.2.2.2.2.2.2.2.2.2.2.2.2.2.2.2.2.2.2.1
    have h19 := hD.2.2.2.2.2.2.2.2.2.2.2.2.2.2.2.2.2.2.2.1
    have h20 := hD.2.2.2.2.2.2.2.2.2.2.2.2.2.2.2.2.2.2.2.2.1
    have h21 := hD.2.2.2.2.2.2.2.2.2.2.2.2.2.2.2.2.2.2.2.2.2.1
    have h22 := hD.2.2.2.2.2.2.2.2.2.2.2.2.2.2.2.2.2.2.2.2.2.2.1
    have h23 := hD.2.2.2.2.2.2.2.2.2.2.2.2.2.2.2.2.2.2.2.2.2.2.2.1
    have h24 := hD.2.2.2.2.2.2.2.2.2.2.2.2.2.2.2.2.2.2.2.2.2.2.2.2.1
    have h25 := hD.2.2.2.2.2.2.2.2.2.2.2.2.2.2.2.2.2.2.2.2.2.2.2.2.2.1
    have h26 := hD.2.2.2.2.2.2.2.2.2.2.2.2.2.2.2.2.2.2.2.2.2.2.2.2.2.2.1
    have h27 := hD.2.2.2.2.2.2.2.2.2.2.2.2.2.2.2.2.2.2.2.2.2.2.2.2.2.2.2
    clear hD
    have dcp0 := hG.cell cp0
    have dcp1 := hG.cell cp1
    have dcp2 := hG.cell cp2
    have dcp3 := hG.cell cp3
    have dcp4 := hG.cell cp4
    have dcp5 := hG.cell cp5
    simp only [fillL, Act.put, List.setIfInBounds_toArray, List.set_cons_zero, List.set_cons_succ, List.getD_cons_zero, List.getD_cons_succ, Is] at hK ⊢
    simp only [h0, h1, h2, h3, h4, h5, h6, h7, h8, h9, h10, h11, h12, h13, h14, h15, h16, h17, h18, h19, h20, h21, h22, h23, h24, h25, h26, h27] at hK ⊢
    clear h0 h1 h2 h3 h4 h5 h6 h7 h8 h9 h10 h11 h12 h13 h14 h15 h16 h17 h18 h19 h20 h21 h22 h23 h24 h25 h26 h27
    refine ite_yes (by rfl) ?_
    go_simp
    exact hK _ _ _ rfl (Grew.refl _) rfl
  refine ⟨?_, ?_⟩
  · intro y w2 hG hD K hK
    simp only [depsH, List.getD_cons_zero, List.getD_cons_succ, Is, and_true] at hD
    have h0 := hD.1
    have h1 := hD.2.1
    have h2 := hD.2.2.1
    have h3 := hD.2.2.2.1
    have h4 := hD.2.2.2.2.1
    have h5 := hD.2.2.2.2.2.1
    have h6 := hD.2.2.2.2.2.2.1
    have h7 := hD.2.2.2.2.2.2.2.1
    have h8 := hD.2.2.2.2.2.2.2.2.1
    have h9 := hD.2.2.2.2.2.2.2.2.2.1
    have h10 := hD.2.2.2.2.2.2.2.2.2.2.1
    have h11 := hD.2.2.2.2.2.2.2.2.2.2.2.1
    have h12 := hD.2.2.2.2.2.2.2.2.2.2.2.2.1
    have h13 := hD.2.2.2.2.2.2.2.2.2.2.2.2.2.1
    have h14 := hD.2.2.2.2.2.2.2.2.2.2.2.2.2.2.1
    have h15 := hD.2.2.2.2.2.2.2.2.2.2.2.2.2.2.2.1
    have h16 := hD.2.2.2.2.2.2.2.2.2.2.2.2.2.2.2.2.1
    have h17 := hD.2.2.2.2.2.2.2.2.2.2.2.2.2.2.2.2.2.1
    have h18 := hD.2.2.2.2.2.2.2.2.2.2.2.2.2.2.2.2.2.2.1
    have h19 := hD.2.2.2.2.2.2.2.2.2.2.2.2.2.2.2.2.2.2.2.1
    have h20 := hD.2.2.2.2.2.2.2.2.2.2.2.2.2.2.2.2.2.2.2.2.1
    have h21 := hD.2.2.2.2.2.2.2.2.2.2.2.2.2.2.2.2.2.2.2.2.2.1
    have h22 := hD.2.2.2.2.2.2.2.2.2.2.2.2.2.2.2.2.2.2.2.2.2.2.1
    have h23 := hD.2.2.2.2.2.2.2.2.2.2.2.2.2.2.2.2.2.2.2.2.2.2.2.1
    have h24 := hD.2.2.2.2.2.2.2.2.2.2.2.2.2.2.2.2.2.2.2.2.2.2.2.2.1
    have h25 := hD.2.2.2.2.2.2.2.2.2.2.2.2.2.2.2.2.2.2.2.2.2.2.2.2.2.1
    have h26 := hD.2.2.2.2.2.2.2.2.2.2.2.2.2.2.2.2.2.2.2.2.2.2.2.2.2.2.1
    have h27 := hD.2.2.2.2.2.2.2.2.2.2.2.2.2.2.2.2.2.2.2.2.2.2.2.2.2.2.2
    clear hD
    have dcq0 := hG.cell cq0
    have dcq1 := hG.cell cq1
    have dcq2 := hG.cell cq2
    have dcq3 := hG.cell cq3
    have dcq4 := hG.cell cq4
    have dcq5 := hG.cell cq5
    simp only [fillL, Act.put, List.setIfInBounds_toArray, List.set_cons_zero, List.set_cons_succ, List.getD_cons_zero, List.getD_cons_succ, Is] at hK ⊢
    simp only [h0, h1, h2, h3, h4, h5, h6, h7, h8, h9, h10, h11, h12, h13, h14, h15, h16, h17, h18, h19, h20, h21, h22, h23, h24, h25, h26, h27] at hK ⊢
    clear h0 h1 h2 h3 h4 h5 h6 h7 h8 h9 h10 h11 h12 h13 h14 h15 h16 h17 h18 h19 h20 h21 h22 h23 h24 h25 h26 h27
    refine ite_yes (by rfl) ?_
    go_simp
    exact hK _ _ _ rfl (Grew.refl _) rfl
  refine ⟨?_, ?_⟩
  · intro y w2 hG hD K hK
    simp only [depsH, List.getD_cons_zero, List.getD_cons_succ, Is, and_true] at hD
    have h0 := hD.1
    have h1 := hD.2.1
    have h2 := hD.2.2.1
    have h3 := hD.2.2.2.1
    have h4 := hD.2.2.2.2.1
    have h5 := hD.2.2.2.2.2.1
    have h6 := hD.2.2.2.2.2.2.1
    have h7 := hD.2.2.2.2.2.2.2.1
    have h8 := hD.2.2.2.2.2.2.2.2.1
    have h9 := hD.2.2.2.2.2.2.2.2.2.1
    have h10 := hD.2.2.2.2.2.2.2.2.2.2.1
    have h11 := hD.2.2.2.2.2.2.2.2.2.2.2.1
    have h12 := hD.2.2.2.2.2.2.2.2.2.2.2.2.1
    have h13 := hD.2.2.2.2.2.2.2.2.2.2.2.2.2.1
    have h14 := hD.2.2.2.2.2.2.2.2.2.2.2.2.2.2.1
    have h15 := hD.2.2.2.2.2.2.2.2.2.2.2.2.2.2.2.1
    have h16 := hD.2.2.2.2.2.2.2.2.2.2.2.2.2.2.2.2.1
    have h17 := hD.2.2.2.2.2.2.2.2.2.2.2.2.2.2.2.2.2.1
    have h18 := hD.2.2.2.2.2.2.2.2.2.2.2.2.2.2.2.2.2.2.1
    have h19 := hD.2.2.2.2.2.2.2.2.2.2.2.2.2.2.2.2.2.2.2.1
    have h20 := hD.2.2.2.2.2.2.2.2.2.2.2.2.2.2.2.2.2.2.2.2.1
    have h21 := hD.2.2.2.2.2.2.2.2.2.2.2.2.2.2.2.2.2.2.2.2.2.1
    have h22 := hD.2.2.2.2.2.2.2.2.2.2.2.2.2.2.2.2.2.2.2.2.2.2.1
    have h23 := hD.2.2.2.2.2.2.2.2.2.2.2.2.2.2.2.2.2.2.2.2.2.2.2.1
    have h24 := hD.2.2.2.2.2.2.2.2.2.2.2.2.2.2.2.2.2.2.2.2.2.2.2.2.1
    have h25 := hD.2.2.2.2.2.2.2.2.2.2.2.2.2.2.2.2.2.2.2.2.2.2.2.2.2.1
    have h26 := hD.2.2.2.2.2.2.2.2.2.2.2.2.2.2.2.2.2.2.2.2.2.2.2.2.2.2.1
    have h27 := hD.2.2.2.2.2.2.2.2.2.2.2.2.2.2.2.2.2.2.2.2.2.2.2.2.2.2.2.1
    have h28 := hD.2.2.2.2.2.2.2.2.2.2.2.2.2.2.2.2.2.2.2.2.2.2.2.2.2.2.2.2.1
    have h29 := hD.2.2.2.2.2.2.2.2.2.2.2.2.2.2.2.2.2.2.2.2.2.2.2.2.2.2.2.2.2.1
    have h30 := hD.2.2.2.2.2.2.2.2.2.2.2.2.2.2.2.2.2.2.2.2.2.2.2.2.2.2.2.2.2.2.1
    have h31 := hD.2.2.2.2.2.2.2.2.2.2.2.2.2.2.2.2.2.2.2.2.2.2.2.2.2.2.2.2.2.2.2.1
    have h32 := hD.2.2.2.2.2.2.2.2.2.2.2.2.2.2.2.2.2.2.2.2.2.2.2.2.2.2.2.2.2.2.2.2
    clear hD
    simp only [fillL, Act.put, List.setIfInBounds_toArray, List.set_cons_zero, List.set_cons_succ, List.getD_cons_zero, List.getD_cons_succ, Is] at hK ⊢
    simp only [h0, h1, h2, h3, h4, h5, h6, h7, h8, h9, h10, h11, h12, h13, h14, h15, h16, h17, h18, h19, h20, h21, h22, h23, h24, h25, h26, h27, h28, h29, h30, h31, h32] at hK ⊢
    clear h0 h1 h2 h3 h4 h5 h6 h7 h8 h9 h10 h11 h12 h13 h14 h15 h16 h17 h18 h19 h20 h21 h22 h23 h24 h25 h26 h27 h28 h29 h30 h31 h32
    refine ite_yes (by rfl) ?_
    go_simp
    refine (same_any _ (norT X) (Nat.le_refl _) (norT Y) _ _ _ (HNP.out.grew hG) (HNQ.out.grew hG)).mono ?_
    rintro r w3 ⟨bq, rfl, hbq, hg3⟩
    obtain rfl : ab = bq := bool_of HAB.out (hbq.trans HP.out.same.symm)
    exact hK _ _ _ rfl hg3 rfl
  refine ⟨?_, ?_⟩
  · intro y w2 hG hD K hK
    simp only [depsH, List.getD_cons_zero, List.getD_cons_succ, Is, and_true] at hD
    have h0 := hD.1
    have h1 := hD.2.1
    have h2 := hD.2.2.1
    have h3 := hD.2.2.2.1
    have h4 := hD.2.2.2.2.1
    have h5 := hD.2.2.2.2.2.1
    have h6 := hD.2.2.2.2.2.2.1
    have h7 := hD.2.2.2.2.2.2.2.1
    have h8 := hD.2.2.2.2.2.2.2.2.1
    have h9 := hD.2.2.2.2.2.2.2.2.2.1
    have h10 := hD.2.2.2.2.2.2.2.2.2.2.1
    have h11 := hD.2.2.2.2.2.2.2.2.2.2.2.1
    have h12 := hD.2.2.2.2.2.2.2.2.2.2.2.2.1
    have h13 := hD.2.2.2.2.2.2.2.2.2.2.2.2.2.1
    have h14 := hD.2.2.2.2.2.2.2.2.2.2.2.2.2.2.1
    have h15 := hD.2.2.2.2.2.2.2.2.2.2.2.2.2.2.2.1
    have h16 := hD.2.2.2.2.2.2.2.2.2.2.2.2.2.2.2.2.1
    have h17 := hD.2.2.2.2.2.2.2.2.2.2.2.2.2.2.2.2.2.1
    have h18 := hD.2.2.2.2.2.2.2.2.2.2.2.2.2.2.2.2.2.2.1
    have h19 := hD.2.2.2.2.2.2.2.2.2.2.2.2.2.2.2.2.2.2.2.1
    have h20 := hD.2.2.2.2.2.2.2.2.2.2.2.2.2.2.2.2.2.2.2.2.1
    have h21 := hD.2.2.2.2.2.2.2.2.2.2.2.2.2.2.2.2.2.2.2.2.2.1
    have h22 := hD.2.2.2.2.2.2.2.2.2.2.2.2.2.2.2.2.2.2.2.2.2.2.1
    have h23 := hD.2.2.2.2.2.2.2.2.2.2.2.2.2.2.2.2.2.2.2.2.2.2.2.1
    have h24 := hD.2.2.2.2.2.2.2.2.2.2.2.2.2.2.2.2.2.2.2.2.2.2.2.2.1
    have h25 := hD.2.2.2.2.2.2.2.2.2.2.2.2.2.2.2.2.2.2.2.2.2.2.2.2.2.1
    have h26 := hD.2.2.2.2.2.2.2.2.2.2.2.2.2.2.2.2.2.2.2.2.2.2.2.2.2.2.1
    have h27 := hD.2.2.2.2.2.2.2.2.2.2.2.2.2.2.2.2.2.2.2.2.2.2.2.2.2.2.2.1
    have h28 := hD.2.2.2.2.2.2.2.2.2.2.2.2.2.2.2.2.2.2.2.2.2.2.2.2.2.2.2.2.1
    have h29 := hD.2.2.2.2.2.2.2.2.2.2.2.2.2.2.2.2.2.2.2.2.2.2.2.2.2.2.2.2.2.1
    have h30 := hD.2.2.2.2.2.2.2.2.2.2.2.2.2.2.2.2.2.2.2.2.2.2.2.2.2.2.2.2.2.2.1
    have h31 := hD.2.2.2.2.2.2.2.2.2.2.2.2.2.2.2.2.2.2.2.2.2.2.2.2.2.2.2.2.2.2.2.1
    have h32 := hD.2.2.2.2.2.2.2.2.2.2.2.2.2.2.2.2.2.2.2.2.2.2.2.2.2.2.2.2.2.2.2.2.1
    have h33 := hD.2.2.2.2.2.2.2.2.2.2.2.2.2.2.2.2.2.2.2.2.2.2.2.2.2.2.2.2.2.2.2.2.2
    clear hD
    simp only [fillL, Act.put, List.setIfInBounds_toArray, List.set_cons_zero, List.set_cons_succ, List.getD_cons_zero, List.getD_cons_succ, Is] at hK ⊢
    simp only [h0, h1, h2, h3, h4, h5, h6, h7, h8, h9, h10, h11, h12, h13, h14, h15, h16, h17, h18, h19, h20, h21, h22, h23, h24, h25, h26, h27, h28, h29, h30, h31, h32, h33] at hK ⊢
    clear h0 h1 h2 h3 h4 h5 h6 h7 h8 h9 h10 h11 h12 h13 h14 h15 h16 h17 h18 h19 h20 h21 h22 h23 h24 h25 h26 h27 h28 h29 h30 h31 h32 h33
    refine ite_yes (by rfl) ?_
    go_simp
    exact hK _ _ _ rfl (Grew.refl _) (by cases ab <;> rfl)
  refine ⟨?_, ?_⟩
  · intro y w2 hG hD K hK
    simp only [depsH, List.getD_cons_zero, List.getD_cons_succ, Is, and_true] at hD
    have h0 := hD.1
    have h1 := hD.2.1
    have h2 := hD.2.2.1
    have h3 := hD.2.2.2.1
    have h4 := hD.2.2.2.2.1
    have h5 := hD.2.2.2.2.2.1
    have h6 := hD.2.2.2.2.2.2.1
    have h7 := hD.2.2.2.2.2.2.2.1
    have h8 := hD.2.2.2.2.2.2.2.2.1
    have h9 := hD.2.2.2.2.2.2.2.2.2.1
    have h10 := hD.2.2.2.2.2.2.2.2.2.2.1
    have h11 := hD.2.2.2.2.2.2.2.2.2.2.2.1
    have h12 := hD.2.2.2.2.2.2.2.2.2.2.2.2.1
    have h13 := hD.2.2.2.2.2.2.2.2.2.2.2.2.2.1
    have h14 := hD.2.2.2.2.2.2.2.2.2.2.2.2.2.2.1
    have h15 := hD.2.2.2.2.2.2.2.2.2.2.2.2.2.2.2.1
    have h16 := hD.2.2.2.2.2.2.2.2.2.2.2.2.2.2.2.2.1
    have h17 := hD.2.2.2.2.2.2.2.2.2.2.2.2.2.2.2.2.2.1
    have h18 := hD.2.2.2.2.2.2.2.2.2.2.2.2.2.2.2.2.2.2.1
    have h19 := hD.2.2.2.2.2.2.2.2.2.2.2.2.2.2.2.2.2.2.2.1
    have h20 := hD.2.2.2.2.2.2.2.2.2.2.2.2.2.2.2.2.2.2.2.2.1
    have h21 := hD.2.2.2.2.2.2.2.2.2.2.2.2.2.2.2.2.2.2.2.2.2.1
    have h22 := hD.2.2.2.2.2.2.2.2.2.2.2.2.2.2.2.2.2.2.2.2.2.2.1
    have h23 := hD.2.2.2.2.2.2.2.2.2.2.2.2.2.2.2.2.2.2.2.2.2.2.2.1
    have h24 := hD.2.2.2.2.2.2.2.2.2.2.2.2.2.2.2.2.2.2.2.2.2.2.2.2.1
    have h25 := hD.2.2.2.2.2.2.2.2.2.2.2.2.2.2.2.2.2.2.2.2.2.2.2.2.2.1
    have h26 := hD.2.2.2.2.2.2.2.2.2.2.2.2.2.2.2.2.2.2.2.2.2.2.2.2.2.2.1
    have h27 := hD.2.2.2.2.2.2.2.2.2.2.2.2.2.2.2.2.2.2.2.2.2.2.2.2.2.2.2.1
    have h28 := hD.2.2.2.2.2.2.2.2.2.2.2.2.2.2.2.2.2.2.2.2.2.2.2.2.2.2.2.2.1
    have h29 := hD.2.2.2.2.2.2.2.2.2.2.2.2.2.2.2.2.2.2.2.2.2.2.2.2.2.2.2.2.2.1
    have h30 := hD.2.2.2.2.2.2.2.2.2.2.2.2.2.2.2.2.2.2.2.2.2.2.2.2.2.2.2.2.2.2.1
    have h31 := hD.2.2.2.2.2.2.2.2.2.2.2.2.2.2.2.2.2.2.2.2.2.2.2.2.2.2.2.2.2.2.2.1
    have h32 := hD.2.2.2.2.2.2.2.2.2.2.2.2.2.2.2.2.2.2.2.2.2.2.2.2.2.2.2.2.2.2.2.2.1
    have h33 := hD.2.2.2.2.2.2.2.2.2.2.2.2.2.2.2.2.2.2.2.2.2.2.2.2.2.2.2.2.2.2.2.2.2.1
    have h34 := hD.2.2.2.2.2.2.2.2.2.2.2.2.2.2.2.2.2.2.2.2.2.2.2.2.2.2.2.2.2.2.2.2.2.2
    clear hD
    simp only [fillL, Act.put, List.setIfInBounds_toArray, List.set_cons_zero, List.set_cons_succ, List.getD_cons_zero, List.getD_cons_succ, Is] at hK ⊢
    simp only [h0, h1, h2, h3, h4, h5, h6, h7, h8, h9, h10, h11, h12, h13, h14, h15, h16, h17, h18, h19, h20, h21, h22, h23, h24, h25, h26, h27, h28, h29, h30, h31, h32, h33, h34] at hK ⊢
    clear h0 h1 h2 h3 h4 h5 h6 h7 h8 h9 h10 h11 h12 h13 h14 h15 h16 h17 h18 h19 h20 h21 h22 h23 h24 h25 h26 h27 h28 h29 h30 h31 h32 h33 h34
    refine ite_yes (by rfl) ?_
    go_simp
    exact hK _ _ _ rfl (Grew.refl _) rfl
  trivial

theorem normalParts_own : ownKnob Try.prog.godebug = none := by kernel_rfl
theorem normalParts_laidOut : laidOutB Try.prog = true := by kernel_rfl

set_option maxRecDepth 100000 in
theorem normalParts_lifted (os : Os) (started : os.Started) (H : Type) (enc : TypeId × Value → H) :
    ReturnsInHanded {} Try.checked os 8 .any (Rows.normalPartsSpec.pre6 enc Try.prog Try.f8 Rows.normalPartsRow.domain false) (Rows.normalPartsSpec.post enc Try.prog Try.f8 false true false false) := by
  refine returnsInHanded_of_change (C := Try.checked) normalParts_own started (by kernel_rfl) Try.func8
    (ChangeSpec.witness6 (enc := enc) (C := Try.checked) false ⟨#[], #[.agg #[.int .i64 0, .int .i64 0, .int .u64 0, .string ⟨#[]⟩, .slice none 0 0, .slice none 0 0], .agg #[.int .i64 0, .int .i64 0, .int .u64 0, .string ⟨#[]⟩, .slice none 0 0, .slice none 0 0]], []⟩ 8 (by kernel_rfl) (by kernel_rfl) (by kernel_rfl) (by kernel_rfl)) ?_
  intro W base args ds gs before hval0 hW hcnd _
  have hval : ∀ (j : Nat) t v, Try.f8.params[j]? = some t → args[j]? = some v → Value.okWide Try.prog W .any base t v := hval0
  have hW' := hW
  obtain ⟨p, q, hA0, hV, rfl, hfz, hnd⟩ := hW
  have hA : DataW.TrodAll enc Try.prog W 0 (fun _ => true) true Try.f8.params.toList args.toList ds p := hA0
  rw [Try.params8] at hA hval
  obtain ⟨v0, vs0, d0, ds0, p0, q0, hargs, rfl, rfl, h0, r0⟩ := trodAll_cons hA
  obtain ⟨v1, vs1, d1, ds1, p1, q1, rfl, rfl, rfl, h1, r1⟩ := trodAll_cons r0
  obtain ⟨rfl, rfl, rfl⟩ := trodAll_nil r1
  obtain rfl : args = #[v0, v1] := by cases args; simp_all
  obtain ⟨rfl, rfl⟩ := trodVars_none hV
  have lt0 : ∀ x ∈ p0, x.block < W.heap.size := by obtain ⟨m, hm⟩ := h0; exact DataW.trod_lt m _ _ _ hm
  have lt1 : ∀ x ∈ p1, x.block < W.heap.size := by obtain ⟨m, hm⟩ := h1; exact DataW.trod_lt m _ _ _ hm
  have hw := normalParts_row enc W base v0 d0 p0 (hval 0 26 v0 rfl rfl) h0 v1 d1 p1 (hval 1 26 v1 rfl rfl) h1
  clear hA0 hval0
  refine hw.mono fun e W' ⟨he, bel⟩ => ?_
  subst he
  exact ⟨_, rfl, _, _, _, [], _, [], hW', trodAll_mk1 (shut_bool Try.underlying4 _), (trodAll_cons_mk (Below.trod normalParts_laidOut (by kernel_rfl) (of_decide_eq_true (by kernel_rfl)) h0 bel lt0) (trodAll_cons_mk (Below.trod normalParts_laidOut (by kernel_rfl) (of_decide_eq_true (by kernel_rfl)) h1 bel lt1) trodAll_mk0)), rfl, Below.frame bel _, fun h => by cases h⟩

/-- The statement. -/
theorem normalParts_holds : Rows.NormalPartsSaid :=
  OpenClaim.holds_of_wide 8 Try.f8 rfl rfl rfl rfl rfl rfl rfl ⟨rfl, rfl, rfl, rfl, rfl⟩ rfl rfl rfl rfl rfl (by kernel_rfl) Try.func8 (by kernel_rfl)
    (of_decide_eq_true (by kernel_rfl)) (by unfold Func.isWrapper; first | (rw [if_pos (by decide +kernel)]; kernel_rfl) | (rw [if_neg (by decide +kernel)]; exact ⟨rfl, rfl⟩))
    (fun os started H enc _ => normalParts_lifted os started H enc)
end Go.Proofs.Ytfbeepkogcmlmaa
