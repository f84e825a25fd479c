/-
  'NormalKinds': a normal form has only the kinds of normal forms. Conditions: none beyond the statement's own.
-/
import Derived.Test.YtfbeepkogcmlmaaRows
import Derived.Test.YtfbeepkogcmlmaaPG
import Derived.ProofKit
import Derived.OpenShut
import Derived.ShutString
import Derived.ChangeOld
import Derived.Below
import Derived.Lib.SmallJoins
import Derived.Deep.QuietTactic
import Derived.BigQuiet
import Derived.Deep.CutBlock
import Derived.Deep.DeepCutAuto
namespace Go.Proofs.Ytfbeepkogcmlmaa
open Go Go.ChangeShapes Go.WideShapes Go.ChangeAt Go.RowKit Go.Joins
open Go.ChangeMaps (open_string shut_string)
open Go.Deep
set_option linter.unusedVariables false
set_option linter.unusedSimpArgs false

set_option maxRecDepth 100000 in
set_option maxHeartbeats 4000000 in
theorem normalKinds_row {H : Type} (enc : TypeId × Value → H) (W : World) (base : Nat) (v0 : Value) (d0 : DataW H) (p0 : List MemPlace) (o0 : Value.okWide Try.prog W .any base 26 v0) (k0 : DataW.Trod enc Try.prog W 0 (fun _ => true) true 26 v0 d0 p0) :
    Calls Try.prog 7 #[v0] W fun e w' => e = .returned (.bool true) ∧ Below W.heap.size W w' := by
  obtain ⟨t0, hn0⟩ := open_node o0 k0
  have HN0 := Lib.hid hn0
  obtain ⟨k, n, u, s, a4, n4, c4, a5, n5, c5, rfl⟩ := hn0.node6
  clear o0 k0 hn0
  go_enter Try.func7, Try.ntmps7
  go_wp2_with fail
  have hg0 := (Grew.refl W).alloc (.cells #[.int .i64 k, .int .i64 n, .int .u64 u, .string s, .slice a4 n4 c4, .slice a5 n5 c5] 26)
  generalize (W.alloc (.cells #[.int .i64 k, .int .i64 n, .int .u64 u, .string s, .slice a4 n4 c4, .slice a5 n5 c5] 26)) = w0 at *
  refine (few09_any t0 _ w0 (HN0.out.grew hg0)).mono ?_
  rintro r w1 ⟨v1, rfl, hn1, hg1⟩
  have hsz := cutT_size t0
  generalize cutT t0 = tc at *
  have HC := Lib.hid hn1
  obtain ⟨k', n', u', s', a4', n4', c4', a5', n5', c5', rfl⟩ := hn1.node6
  have HG1 := Lib.hid (hg0.trans hg1)
  clear hn1 hg0 hg1 HN0
  go_wp2_with fail
  refine (Of_any tc _ w1 HC.out (by omega)).mono ?_
  intro r w2 hh
  obtain ⟨hg2, e, yk, yn, yu, ys, ya4, yn4, yc4, ya5, yn5, yc5, rfl, he, hy⟩ := of_sum hh
  have HG2 := Lib.hid (HG1.out.trans hg2)
  by_cases h0 : e = 0
  rotate_left
  · have hb : (e == 0) = false := by simpa using h0
    clear hg2 he h0 hy hh
    go_wp2_with fail
    go_loopw [5] (fun i wr => i = .int .i64 0 ∧ Hid (Grew W wr)) (fun _ _ => 0)
    case atStart => exact ⟨rfl, HG2.out.trans ((Grew.refl _).alloc _)⟩
    case round =>
      obtain ⟨rfl, HW⟩ := hrel
      go_wp2_with fail
      refine (works09_any _).mono ?_
      rintro r w4 ⟨rfl, hg4⟩
      go_wp2_with fail
      go_ret
      exact ⟨rfl, HW.out.trans hg4⟩
  · have hcv := check_val.1 (he.symm.trans h0)
    have hvs := val_sort tc.size tc 0 (Nat.le_refl _) hcv.2
    have hof := of_val (sortT tc).size (sortT tc) 0 (Nat.le_refl _) hvs.1
    have HFEW : Hid (Few (norT tc)) := few_val _ _ 0 (Nat.le_refl _) (by rw [show norT tc = ofT (sortT tc) from rfl, hof.2.1, hvs.2]; exact hcv.1) hof.1
    have HK : Hid (∀ p ∈ preT 0 (norT tc), norK p.2.kind p.2.u) := nor_kinds (sortT tc).size (sortT tc) 0 0 (Nat.le_refl _) hvs.1
    have hs2 : (norT tc).size ≤ 120 := by rw [show norT tc = ofT (sortT tc) from rfl, hof.2.1, hvs.2]; exact hsz
    have HN2 := Lib.hid (hy h0)
    clear he hy hh hcv hvs hof hg2
    subst h0
    generalize norT tc = ts at *
    have hz2 : ts.size ≤ 120 := hs2
    clear hs2
    go_upto_region 2 with fail
    have hb3 := heap_alloc_new w2 (.cells #[.int .i64 yk, .int .i64 yn, .int .u64 yu, .string ys, .slice ya4 yn4 yc4, .slice ya5 yn5 yc5] 26)
    have hg3 := (Grew.refl w2).alloc (.cells #[.int .i64 yk, .int .i64 yn, .int .u64 yu, .string ys, .slice ya4 yn4 yc4, .slice ya5 yn5 yc5] 26)
    generalize (w2.alloc (.cells #[.int .i64 yk, .int .i64 yn, .int .u64 yu, .string ys, .slice ya4 yn4 yc4, .slice ya5 yn5 yc5] 26)) = w3 at *
    obtain ⟨N, hN⟩ : ∃ N, w2.heap.size = N := ⟨_, rfl⟩
    rw [hN] at hb3 ⊢
    have HB3 := Lib.hid hb3
    have HN3 := Lib.hid (HN2.out.grew hg3)
    have HG3 := Lib.hid (HG2.out.trans hg3)
    clear hb3 hg3 hN HN2 HG2
    go_wp2_with fail
    go_loopw [5] (fun i wr => ∃ q : Nat, q ≤ 120 ∧ i = .int .i64 q ∧ Hid (Grew w3 wr)) (fun i _ => 121 - (intOf i).toNat)
    case atStart => exact ⟨0, by omega, rfl, Grew.refl _⟩
    case round =>
      obtain ⟨q, hq, rfl, HW⟩ := hrel
      have hbw := HW.out.heap HB3.out
      have d0 := row_cellT hbw 0 _ rfl
      have d1 := row_cellT hbw 1 _ rfl
      have d2 := row_cellT hbw 2 _ rfl
      have d3 := row_cellT hbw 3 _ rfl
      have d4 := row_cellT hbw 4 _ rfl
      have d5 := row_cellT hbw 5 _ rfl
      clear hbw
      go_wp2_with fail
      refine (size_any ts _ wr (HN3.out.grew HW.out) (by omega)).mono ?_
      rintro r w4 ⟨rfl, hg4⟩
      replace d0 := hg4.cell d0
      replace d1 := hg4.cell d1
      replace d2 := hg4.cell d2
      replace d3 := hg4.cell d3
      replace d4 := hg4.cell d4
      replace d5 := hg4.cell d5
      have HG4 := Lib.hid (HW.out.trans hg4)
      clear hg4
      by_cases hqs : q < ts.size
      · have hqi : (q : Int) < ts.size := by omega
        have hqd : decide ((q : Int) < ts.size) = true := decide_eq_true hqi
        have hq130 : (q : Int) < 130 := by omega
        go_wp2_with fail
        refine (at_any ts q (by omega) _ w4 (HN3.out.grew HG4.out) HFEW.out (by omega)).mono ?_
        rintro r w5 ⟨hg5, ⟨b, x, xv, hx, rfl, hnx⟩ | ⟨hx, _⟩⟩
        rotate_left
        · rw [List.getElem?_eq_none_iff, preT_length] at hx; omega
        have hks := HK.out _ (List.mem_of_getElem? hx)
        obtain ⟨xk, xn, xu, xs, keys, xl⟩ := x
        simp only [NodeAt] at hnx
        obtain ⟨_, kv, lv, vs, rfl, hkv, hrl, _⟩ := hnx
        obtain ⟨ka, kc, rfl⟩ := hkv.form
        obtain ⟨la, lc, rfl⟩ := hrl.form
        have HG5 := Lib.hid ((HG4.out.trans hg5).trans ((Grew.refl w5).alloc (.cells #[.int .i64 xk, .int .i64 xn, .int .u64 xu, .string xs, .slice ka keys.length kc, .slice la vs.length lc] 26)))
        clear hx hkv hrl hg5 d0 d1 d2 d3 d4 d5 HG4
        simp only [Tr.kind, Tr.u] at hks
        unfold norK at hks
        rcases hks with rfl | rfl | rfl | rfl | rfl | rfl | rfl | ⟨rfl, hu⟩
        all_goals
        · go_wp2_with fail
          go_roundw
          case rel => exact ⟨q + 1, by omega, by go_num, HG5.out⟩
          case measure => simp [intOf]; omega
      · have hqi : ¬ (q : Int) < ts.size := by omega
        go_wp2_with fail
        refine (works09_any _).mono ?_
        rintro r w5 ⟨rfl, hg5⟩
        have HGF := Lib.hid (HG3.out.trans (HG4.out.trans hg5))
        clear hg5
        go_wp2_with fail
        go_ret
        exact ⟨rfl, HGF.out⟩

theorem normalKinds_own : ownKnob Try.prog.godebug = none := by kernel_rfl
theorem normalKinds_laidOut : laidOutB Try.prog = true := by kernel_rfl

set_option maxRecDepth 100000 in
theorem normalKinds_lifted (os : Os) (started : os.Started) (H : Type) (enc : TypeId × Value → H) :
    ReturnsInHanded {} Try.checked os 7 .any (Rows.normalKindsSpec.pre6 enc Try.prog Try.f7 Rows.normalKindsRow.domain false) (Rows.normalKindsSpec.post enc Try.prog Try.f7 false true false false) := by
  refine returnsInHanded_of_change (C := Try.checked) normalKinds_own started (by kernel_rfl) Try.func7
    (ChangeSpec.witness6 (enc := enc) (C := Try.checked) false ⟨#[], #[.agg #[.int .i64 0, .int .i64 0, .int .u64 0, .string ⟨#[]⟩, .slice none 0 0, .slice none 0 0]], []⟩ 8 (by kernel_rfl) (by kernel_rfl) (by kernel_rfl) (by kernel_rfl)) ?_
  intro W base args ds gs before hval0 hW hcnd _
  have hval : ∀ (j : Nat) t v, Try.f7.params[j]? = some t → args[j]? = some v → Value.okWide Try.prog W .any base t v := hval0
  have hW' := hW
  obtain ⟨p, q, hA0, hV, rfl, hfz, hnd⟩ := hW
  have hA : DataW.TrodAll enc Try.prog W 0 (fun _ => true) true Try.f7.params.toList args.toList ds p := hA0
  rw [Try.params7] at hA hval
  obtain ⟨v0, vs0, d0, ds0, p0, q0, hargs, rfl, rfl, h0, r0⟩ := trodAll_cons hA
  obtain ⟨rfl, rfl, rfl⟩ := trodAll_nil r0
  obtain rfl : args = #[v0] := by cases args; simp_all
  obtain ⟨rfl, rfl⟩ := trodVars_none hV
  have lt0 : ∀ x ∈ p0, x.block < W.heap.size := by obtain ⟨m, hm⟩ := h0; exact DataW.trod_lt m _ _ _ hm
  have hw := normalKinds_row enc W base v0 d0 p0 (hval 0 26 v0 rfl rfl) h0
  clear hA0 hval0
  refine hw.mono fun e W' ⟨he, bel⟩ => ?_
  subst he
  exact ⟨_, rfl, _, _, _, [], _, [], hW', trodAll_mk1 (shut_bool Try.underlying4 _), (trodAll_cons_mk (Below.trod normalKinds_laidOut (by kernel_rfl) (of_decide_eq_true (by kernel_rfl)) h0 bel lt0) trodAll_mk0), rfl, Below.frame bel _, fun h => by cases h⟩

/-- The statement. -/
theorem normalKinds_holds : Rows.NormalKindsSaid :=
  OpenClaim.holds_of_wide 7 Try.f7 rfl rfl rfl rfl rfl rfl rfl ⟨rfl, rfl, rfl, rfl, rfl⟩ rfl rfl rfl rfl rfl (by kernel_rfl) Try.func7 (by kernel_rfl)
    (of_decide_eq_true (by kernel_rfl)) (by unfold Func.isWrapper; first | (rw [if_pos (by decide +kernel)]; kernel_rfl) | (rw [if_neg (by decide +kernel)]; exact ⟨rfl, rfl⟩))
    (fun os started H enc _ => normalKinds_lifted os started H enc)
end Go.Proofs.Ytfbeepkogcmlmaa
