/-
  'NormalAlike': Alike agrees with the reference. Conditions: none beyond the statement's own.
-/
import Derived.Test.YtfbeepkogcmlmaaRows
import Derived.Test.YtfbeepkogcmlmaaPH
import Derived.ProofKit
import Derived.OpenShut
import Derived.ShutString
import Derived.ChangeOld
import Derived.Below
import Derived.Lib.SmallJoins
import Derived.Deep.QuietTactic
import Derived.BigQuiet
import Derived.Deep.CutBlock
import Derived.Deep.DeepCutAuto
namespace Go.Proofs.Ytfbeepkogcmlmaa
open Go Go.ChangeShapes Go.WideShapes Go.ChangeAt Go.RowKit Go.Joins
open Go.ChangeMaps (open_string shut_string)
open Go.Deep
set_option linter.unusedVariables false
set_option linter.unusedSimpArgs false

set_option maxRecDepth 100000 in
set_option maxHeartbeats 8000000 in
theorem normalAlike_row {H : Type} (enc : TypeId × Value → H) (W : World) (base : Nat) (v0 : Value) (d0 : DataW H) (p0 : List MemPlace) (o0 : Value.okWide Try.prog W .any base 26 v0) (k0 : DataW.Trod enc Try.prog W 0 (fun _ => true) true 26 v0 d0 p0) (v1 : Value) (d1 : DataW H) (p1 : List MemPlace) (o1 : Value.okWide Try.prog W .any base 26 v1) (k1 : DataW.Trod enc Try.prog W 0 (fun _ => true) true 26 v1 d1 p1) :
    Calls Try.prog 4 #[v0, v1] W fun e w' => e = .returned (.bool true) ∧ Below W.heap.size W w' := by
  obtain ⟨t0, hn0⟩ := open_node o0 k0
  have HA0 := Lib.hid hn0
  obtain ⟨tak, tan, tau, tas, taa4, tan4, tac4, taa5, tan5, tac5, rfl⟩ := hn0.node6
  clear o0 k0 hn0
  obtain ⟨t1, hn1⟩ := open_node o1 k1
  have HA1 := Lib.hid hn1
  obtain ⟨uak, uan, uau, uas, uaa4, uan4, uac4, uaa5, uan5, uac5, rfl⟩ := hn1.node6
  clear o1 k1 hn1
  show Calls _ _ _ W fun e w' => e = .returned (.bool true) ∧ Grew W w'
  have HG := Lib.hid (Grew.refl W)
  go_enter Try.func4, Try.ntmps4
  go_upto_region 1 with fail
  obtain ⟨pa, hpa⟩ : ∃ N, W.heap.size = N := ⟨_, rfl⟩
  have hr1 := heap_alloc_new W (.cells #[.int .i64 tak, .int .i64 tan, .int .u64 tau, .string tas, .slice taa4 tan4 tac4, .slice taa5 tan5 tac5] 26)
  have hga := (Grew.refl W).alloc (.cells #[.int .i64 tak, .int .i64 tan, .int .u64 tau, .string tas, .slice taa4 tan4 tac4, .slice taa5 tan5 tac5] 26)
  have hz1 : (W.alloc (.cells #[.int .i64 tak, .int .i64 tan, .int .u64 tau, .string tas, .slice taa4 tan4 tac4, .slice taa5 tan5 tac5] 26)).heap.size = pa + 1 := by rw [World.size_alloc, hpa]
  generalize (W.alloc (.cells #[.int .i64 tak, .int .i64 tan, .int .u64 tau, .string tas, .slice taa4 tan4 tac4, .slice taa5 tan5 tac5] 26)) = x1 at *
  rw [hpa] at hr1
  try rw [hpa]
  have HRA := Lib.hid hr1
  clear hr1 hpa
  replace HA0 := Lib.hid (NodeAt.grew hga HA0.out)
  replace HA1 := Lib.hid (NodeAt.grew hga HA1.out)
  replace HG := Lib.hid (HG.out.trans hga)
  clear hga
  have hr2 := heap_alloc_new x1 (.cells #[.int .i64 uak, .int .i64 uan, .int .u64 uau, .string uas, .slice uaa4 uan4 uac4, .slice uaa5 uan5 uac5] 26)
  have hga := (Grew.refl x1).alloc (.cells #[.int .i64 uak, .int .i64 uan, .int .u64 uau, .string uas, .slice uaa4 uan4 uac4, .slice uaa5 uan5 uac5] 26)
  generalize (x1.alloc (.cells #[.int .i64 uak, .int .i64 uan, .int .u64 uau, .string uas, .slice uaa4 uan4 uac4, .slice uaa5 uan5 uac5] 26)) = x2 at *
  rw [hz1] at hr2
  try rw [hz1]
  have HRB := Lib.hid hr2
  clear hr2 hz1
  replace HA0 := Lib.hid (NodeAt.grew hga HA0.out)
  replace HA1 := Lib.hid (NodeAt.grew hga HA1.out)
  replace HRA := Lib.hid (hga.heap HRA.out)
  replace HG := Lib.hid (HG.out.trans hga)
  clear hga
  have c0 := row_cellT HRA.out 0 _ rfl
  have c1 := row_cellT HRA.out 1 _ rfl
  have c2 := row_cellT HRA.out 2 _ rfl
  have c3 := row_cellT HRA.out 3 _ rfl
  have c4 := row_cellT HRA.out 4 _ rfl
  have c5 := row_cellT HRA.out 5 _ rfl
  have e0 := row_cellT HRB.out 0 _ rfl
  have e1 := row_cellT HRB.out 1 _ rfl
  have e2 := row_cellT HRB.out 2 _ rfl
  have e3 := row_cellT HRB.out 3 _ rfl
  have e4 := row_cellT HRB.out 4 _ rfl
  have e5 := row_cellT HRB.out 5 _ rfl
  refine wp_region_tablesS Grew 6 [[], [0], [], [0, 1, 2], [], [], [0, 1, 2, 3, 4, 5], [0, 1, 2, 3, 4, 5, 6]] [[(9, 2), (5, 4), (6, 5)], [(7, 0), (9, 2), (5, 4), (6, 5)], [(7, 0), (8, 1), (5, 4), (6, 5)], [(7, 0), (8, 1), (9, 2), (5, 4), (6, 5)], [(7, 0), (8, 1), (9, 2), (10, 3), (6, 5)], [(7, 0), (8, 1), (9, 2), (10, 3), (5, 4)], [(7, 0), (8, 1), (9, 2), (10, 3), (5, 4), (6, 5)], [(7, 0), (8, 1), (9, 2), (10, 3), (5, 4), (6, 5)]] [(7, 0), (8, 1), (9, 2), (10, 3), (5, 4), (6, 5)]
    [Is (.agg #[.int .i64 tak, .int .i64 tan, .int .u64 tau, .string tas, .slice taa4 tan4 tac4, .slice taa5 tan5 tac5]), Nd (cutT t0), Is (.agg #[.int .i64 uak, .int .i64 uan, .int .u64 uau, .string uas, .slice uaa4 uan4 uac4, .slice uaa5 uan5 uac5]), Nd (cutT t1), fun v w => ∃ S, NewV v S w, fun v w => ∃ S, NewV v S w]
    [none, some (OwnV x2.heap.size (cutT t0)), none, some (OwnV x2.heap.size (cutT t1)), some (NewV), some (NewV)]
    (by kernel_rfl) Grew.trans Grew.refl (Grew.refl _).drew (by kernel_rfl) ⟨is_st, Nd.st _, is_st, Nd.st _, fun _ _ _ hg ⟨S, h⟩ => ⟨S, NewV.st _ _ _ _ hg h⟩, fun _ _ _ hg ⟨S, h⟩ => ⟨S, NewV.st _ _ _ _ hg h⟩, trivial⟩ (fun _ _ h => Grew.size h) ⟨OwnV.st _ _, OwnV.st _ _, NewV.st, NewV.st, trivial⟩ rfl ?_ ?_
  rotate_left
  · intro y w2 hG hF hS
    simp only [factsH, Is, and_true, Nat.reduceAdd] at hF
    have h0 := hF.1
    have h1 := hF.2.1
    have h2 := hF.2.2.1
    have h3 := hF.2.2.2.1
    have h4 := hF.2.2.2.2.1
    have h5 := hF.2.2.2.2.2
    clear hF
    simp only [fillL, Act.put, List.setIfInBounds_toArray, List.set_cons_zero, List.set_cons_succ, List.getD_cons_zero, List.getD_cons_succ, List.drop_succ_cons, List.drop_zero]
    simp only [h0, h2]
    clear h0 h2
    obtain ⟨σ, hS⟩ := hS
    have hs1 := hS.said 1 (by decide) _ rfl
    obtain ⟨fk, fn, fu, fs, fa4, fn4, fc4, fa5, fn5, fc5, e1⟩ := hs1.node6
    rw [e1] at hs1
    have hs3 := hS.said 3 (by decide) _ rfl
    obtain ⟨uk, un, uu, us, ua4, un4, uc4, ua5, un5, uc5, e3⟩ := hs3.node6
    rw [e3] at hs3
    obtain ⟨gx, e4, hσ4, hz4⟩ := hS.said 4 (by decide) _ rfl
    have hbg4 := (hS.bound 4 (by decide) gx hσ4).1
    obtain ⟨gy, e5, hσ5, hz5⟩ := hS.said 5 (by decide) _ rfl
    have hbg5 := (hS.bound 5 (by decide) gy hσ5).1
    simp only [e1, e3, e4, e5]
    have HGG := Lib.hid (HG.out.trans hG)
    have HGX := Lib.hid hG
    refine wpList_store6 rfl _ _ rfl rfl gx fk fn fu fs fa4 fn4 fc4 fa5 fn5 fc5 rfl rfl _ _ _ _ _ _ hz4 ?_
    intro v1 hm HRr
    replace hs1 : OwnT v1 _ _ _ (σ 1) := OwnT.kept hm hs1 (fun g' hg' e => hS.apart 1 4 (by decide) (by decide) (by decide) g' hg' (by rw [e]; exact hσ4))
    replace hs3 : OwnT v1 _ _ _ (σ 3) := OwnT.kept hm hs3 (fun g' hg' e => hS.apart 3 4 (by decide) (by decide) (by decide) g' hg' (by rw [e]; exact hσ4))
    replace hz5 := hm.heap hz5 (fun e => hS.apart 5 4 (by decide) (by decide) (by decide) gy hσ5 (by rw [show gy = gx from e]; exact hσ4))
    replace HGG := Lib.hid (Moved.fresh HGG.out hm (fun g' e => by have h1 := HG.out.size; have h2 := hbg4; have h3 : g' = gx := e; omega))
    replace HGX := Lib.hid (Moved.fresh HGX.out hm (fun g' e => by have h2 := hbg4; have h3 : g' = gx := e; omega))
    clear hm
    refine wpList_store6 rfl _ _ rfl rfl gy uk un uu us ua4 un4 uc4 ua5 un5 uc5 rfl rfl _ _ _ _ _ _ hz5 ?_
    intro v2 hm HQr
    replace hs1 : OwnT v2 _ _ _ (σ 1) := OwnT.kept hm hs1 (fun g' hg' e => hS.apart 1 5 (by decide) (by decide) (by decide) g' hg' (by rw [e]; exact hσ5))
    replace hs3 : OwnT v2 _ _ _ (σ 3) := OwnT.kept hm hs3 (fun g' hg' e => hS.apart 3 5 (by decide) (by decide) (by decide) g' hg' (by rw [e]; exact hσ5))
    replace HRr := hm.heap HRr (fun e => hS.apart 4 5 (by decide) (by decide) (by decide) gx hσ4 (by rw [show gx = gy from e]; exact hσ5))
    replace HGG := Lib.hid (Moved.fresh HGG.out hm (fun g' e => by have h1 := HG.out.size; have h2 := hbg5; have h3 : g' = gy := e; omega))
    replace HGX := Lib.hid (Moved.fresh HGX.out hm (fun g' e => by have h2 := hbg5; have h3 : g' = gy := e; omega))
    clear hm
    have HT : Hid (NodeAt v2 (cutT t0) (.agg #[.int .i64 fk, .int .i64 fn, .int .u64 fu, .string fs, .slice fa4 fn4 fc4, .slice fa5 fn5 fc5])) := hs1.node
    have HU : Hid (NodeAt v2 (cutT t1) (.agg #[.int .i64 uk, .int .i64 un, .int .u64 uu, .string us, .slice ua4 un4 uc4, .slice ua5 un5 uc5])) := hs3.node
    have HR := Lib.hid HRr
    have HQ := Lib.hid HQr
    replace HG := HGG
    clear HGG hG hS hs1 h1 e1 hs3 h3 e3 hz4 hσ4 hbg4 e4 HRr hz5 hσ5 hbg5 e5 HQr
    have HG0 := Lib.hid (show Grew x2 v2 from HGX.out)
    replace HRA := Lib.hid (HG0.out.heap HRA.out)
    replace HRB := Lib.hid (HG0.out.heap HRB.out)
    replace HA0 := Lib.hid (NodeAt.grew HG0.out HA0.out)
    replace HA1 := Lib.hid (NodeAt.grew HG0.out HA1.out)
    clear c0 c1 c2 c3 c4 c5 e0 e1 e2 e3 e4 e5
    have r0 := row_cellT HR.out 0 _ rfl
    have r1 := row_cellT HR.out 1 _ rfl
    have r2 := row_cellT HR.out 2 _ rfl
    have r3 := row_cellT HR.out 3 _ rfl
    have r4 := row_cellT HR.out 4 _ rfl
    have r5 := row_cellT HR.out 5 _ rfl
    have q0 := row_cellT HQ.out 0 _ rfl
    have q1 := row_cellT HQ.out 1 _ rfl
    have q2 := row_cellT HQ.out 2 _ rfl
    have q3 := row_cellT HQ.out 3 _ rfl
    have q4 := row_cellT HQ.out 4 _ rfl
    have q5 := row_cellT HQ.out 5 _ rfl
    have c0 := row_cellT HRA.out 0 _ rfl
    have c1 := row_cellT HRA.out 1 _ rfl
    have c2 := row_cellT HRA.out 2 _ rfl
    have c3 := row_cellT HRA.out 3 _ rfl
    have c4 := row_cellT HRA.out 4 _ rfl
    have c5 := row_cellT HRA.out 5 _ rfl
    have e0 := row_cellT HRB.out 0 _ rfl
    have e1 := row_cellT HRB.out 1 _ rfl
    have e2 := row_cellT HRB.out 2 _ rfl
    have e3 := row_cellT HRB.out 3 _ rfl
    have e4 := row_cellT HRB.out 4 _ rfl
    have e5 := row_cellT HRB.out 5 _ rfl
    have hz0 := cutT_size t0
    have hz1 := cutT_size t1
    obtain ⟨hv, hhv⟩ : ∃ b : Bool, (b = true ↔ alikeP (cutT t0) (cutT t1)) := by classical exact ⟨decide (alikeP (cutT t0) (cutT t1)), by simp⟩
    have HC1 : Hid (∀ w, NodeAt w (cutT t0) (.agg #[.int .i64 fk, .int .i64 fn, .int .u64 fu, .string fs, .slice fa4 fn4 fc4, .slice fa5 fn5 fc5]) → NodeAt w (cutT t1) (.agg #[.int .i64 uk, .int .i64 un, .int .u64 uu, .string us, .slice ua4 un4 uc4, .slice ua5 un5 uc5]) → Calls Try.prog 15 #[.agg #[.int .i64 fk, .int .i64 fn, .int .u64 fu, .string fs, .slice fa4 fn4 fc4, .slice fa5 fn5 fc5], .agg #[.int .i64 uk, .int .i64 un, .int .u64 uu, .string us, .slice ua4 un4 uc4, .slice ua5 un5 uc5]] w fun r w' => r = .returned (.bool hv) ∧ Grew w w') := fun w h1 h2 => (alike_any _ _ _ _ w h1 h2 (by omega) (by omega)).mono (by
      rintro r w' ⟨b, rfl, hb, hg⟩
      exact ⟨by rw [show b = hv from Bool.eq_iff_iff.2 (hb.trans hhv.symm)], hg⟩)
    have HC2 : Hid (∀ w, NodeAt w (cutT t0) (.agg #[.int .i64 fk, .int .i64 fn, .int .u64 fu, .string fs, .slice fa4 fn4 fc4, .slice fa5 fn5 fc5]) → NodeAt w (cutT t1) (.agg #[.int .i64 uk, .int .i64 un, .int .u64 uu, .string us, .slice ua4 un4 uc4, .slice ua5 un5 uc5]) → Calls Try.prog 16 #[.agg #[.int .i64 fk, .int .i64 fn, .int .u64 fu, .string fs, .slice fa4 fn4 fc4, .slice fa5 fn5 fc5], .agg #[.int .i64 uk, .int .i64 un, .int .u64 uu, .string us, .slice ua4 un4 uc4, .slice ua5 un5 uc5]] w fun r w' => r = .returned (.bool hv) ∧ Grew w w') := fun w h1 h2 => (ralike_any _ _ _ _ w h1 h2 (by omega) (by omega)).mono (by
      rintro r w' ⟨b, rfl, hb, hg⟩
      exact ⟨by rw [show b = hv from Bool.eq_iff_iff.2 ((hb.trans (ralike_eq (by omega) (by omega))).trans hhv.symm)], hg⟩)
    clear hhv hz0 hz1
    go_upto_region 2 with fail
    refine wp_region_tables Grew [[], [], [0, 1], [], [], [0, 1, 2, 3, 4], [0, 1, 2, 3, 4, 5], [0, 1, 2, 3, 4, 5, 6], [0, 1, 2, 3, 4, 5, 6, 7], [0, 1, 2, 3, 4, 5, 6, 7], [0, 1, 2, 3, 4, 5, 6, 7, 9], [0, 1, 2, 3, 4, 5, 6, 7, 8, 9, 10], [0, 1, 2, 3, 4, 5, 6, 7, 8, 9, 10, 11], [0, 1, 2, 3, 4, 5, 6, 7, 8, 9, 10, 11, 12], [0, 1, 2, 3, 4, 5, 6, 7, 8, 9, 10, 11, 12, 13], [0, 1, 2, 3, 4, 5, 6, 7, 8, 9, 10, 11, 12, 13], [0, 1, 2, 3, 4, 5, 6, 7, 8, 9, 10, 11, 12, 13, 15], [0, 1, 2, 3, 4, 5, 6, 7, 8, 9, 10, 11, 12, 13, 14, 15, 16], [0, 1, 2, 3, 4, 5, 6, 7, 8, 9, 10, 11, 12, 13, 14, 15, 16, 17], [0, 1, 2, 3, 4, 5, 6, 7, 8, 9, 10, 11, 12, 13, 14, 15, 16, 17, 18], [0, 1, 2, 3, 4, 5, 6, 7, 8, 9, 10, 11, 12, 13, 14, 15, 16, 17, 18, 19], [0, 1, 2, 3, 4, 5, 6, 7, 8, 9, 10, 11, 12, 13, 14, 15, 16, 17, 18, 19, 20], [0, 1, 2, 3, 4, 5, 6, 7, 8, 9, 10, 11, 12, 13, 14, 15, 16, 17, 18, 19, 20, 21]] [[(12, 1), (14, 3), (15, 4)], [(11, 0), (14, 3), (15, 4)], [(11, 0), (12, 1), (14, 3), (15, 4)], [(11, 0), (12, 1), (13, 2), (15, 4)], [(11, 0), (12, 1), (13, 2), (14, 3)], [(11, 0), (12, 1), (13, 2), (14, 3), (15, 4)], [(11, 0), (12, 1), (13, 2), (14, 3), (15, 4), (16, 5)], [(11, 0), (12, 1), (13, 2), (14, 3), (15, 4), (16, 5), (17, 6)], [(11, 0), (12, 1), (13, 2), (14, 3), (15, 4), (16, 5), (17, 6), (18, 7), (20, 9), (21, 10)], [(11, 0), (12, 1), (13, 2), (14, 3), (15, 4), (16, 5), (17, 6), (18, 7), (19, 8)], [(11, 0), (12, 1), (13, 2), (14, 3), (15, 4), (16, 5), (17, 6), (18, 7), (19, 8), (20, 9)], [(11, 0), (12, 1), (13, 2), (14, 3), (15, 4), (16, 5), (17, 6), (18, 7), (19, 8), (20, 9), (21, 10)], [(11, 0), (12, 1), (13, 2), (14, 3), (15, 4), (16, 5), (17, 6), (18, 7), (19, 8), (20, 9), (21, 10), (22, 11)], [(11, 0), (12, 1), (13, 2), (14, 3), (15, 4), (16, 5), (17, 6), (18, 7), (19, 8), (20, 9), (21, 10), (22, 11), (23, 12)], [(11, 0), (12, 1), (13, 2), (14, 3), (15, 4), (16, 5), (17, 6), (18, 7), (19, 8), (20, 9), (21, 10), (22, 11), (23, 12), (24, 13), (26, 15), (27, 16)], [(11, 0), (12, 1), (13, 2), (14, 3), (15, 4), (16, 5), (17, 6), (18, 7), (19, 8), (20, 9), (21, 10), (22, 11), (23, 12), (24, 13), (25, 14)], [(11, 0), (12, 1), (13, 2), (14, 3), (15, 4), (16, 5), (17, 6), (18, 7), (19, 8), (20, 9), (21, 10), (22, 11), (23, 12), (24, 13), (25, 14), (26, 15)], [(11, 0), (12, 1), (13, 2), (14, 3), (15, 4), (16, 5), (17, 6), (18, 7), (19, 8), (20, 9), (21, 10), (22, 11), (23, 12), (24, 13), (25, 14), (26, 15), (27, 16)], [(11, 0), (12, 1), (13, 2), (14, 3), (15, 4), (16, 5), (17, 6), (18, 7), (19, 8), (20, 9), (21, 10), (22, 11), (23, 12), (24, 13), (25, 14), (26, 15), (27, 16), (28, 17)], [(11, 0), (12, 1), (13, 2), (14, 3), (15, 4), (16, 5), (17, 6), (18, 7), (19, 8), (20, 9), (21, 10), (22, 11), (23, 12), (24, 13), (25, 14), (26, 15), (27, 16), (28, 17), (29, 18)], [(11, 0), (12, 1), (13, 2), (14, 3), (15, 4), (16, 5), (17, 6), (18, 7), (19, 8), (20, 9), (21, 10), (22, 11), (23, 12), (24, 13), (25, 14), (26, 15), (27, 16), (28, 17), (29, 18), (30, 19)], [(11, 0), (12, 1), (13, 2), (14, 3), (15, 4), (16, 5), (17, 6), (18, 7), (19, 8), (20, 9), (21, 10), (22, 11), (23, 12), (24, 13), (25, 14), (26, 15), (27, 16), (28, 17), (29, 18), (30, 19), (31, 20)], [(11, 0), (12, 1), (13, 2), (14, 3), (15, 4), (16, 5), (17, 6), (18, 7), (19, 8), (20, 9), (21, 10), (22, 11), (23, 12), (24, 13), (25, 14), (26, 15), (27, 16), (28, 17), (29, 18), (30, 19), (31, 20), (32, 21)]] [(11, 0), (12, 1), (13, 2), (14, 3), (15, 4), (16, 5), (17, 6), (18, 7), (19, 8), (20, 9), (21, 10), (22, 11), (23, 12), (24, 13), (25, 14), (26, 15), (27, 16), (28, 17), (29, 18), (30, 19), (31, 20), (32, 21), (4, 22)]
      [Is (.agg #[.int .i64 fk, .int .i64 fn, .int .u64 fu, .string fs, .slice fa4 fn4 fc4, .slice fa5 fn5 fc5]), Is (.agg #[.int .i64 uk, .int .i64 un, .int .u64 uu, .string us, .slice ua4 un4 uc4, .slice ua5 un5 uc5]), Is (.bool hv), Is (.agg #[.int .i64 fk, .int .i64 fn, .int .u64 fu, .string fs, .slice fa4 fn4 fc4, .slice fa5 fn5 fc5]), Is (.agg #[.int .i64 uk, .int .i64 un, .int .u64 uu, .string us, .slice ua4 un4 uc4, .slice ua5 un5 uc5]), Is (.bool hv), Is (.bool true), Is (.bool true), Is (.agg #[.int .i64 fk, .int .i64 fn, .int .u64 fu, .string fs, .slice fa4 fn4 fc4, .slice fa5 fn5 fc5]), Is (.agg #[.int .i64 tak, .int .i64 tan, .int .u64 tau, .string tas, .slice taa4 tan4 tac4, .slice taa5 tan5 tac5]), Nd (cutT t0), Is (.bool true), Is (.bool true), Is (.bool true), Is (.agg #[.int .i64 uk, .int .i64 un, .int .u64 uu, .string us, .slice ua4 un4 uc4, .slice ua5 un5 uc5]), Is (.agg #[.int .i64 uak, .int .i64 uan, .int .u64 uau, .string uas, .slice uaa4 uan4 uac4, .slice uaa5 uan5 uac5]), Nd (cutT t1), Is (.bool true), Is (.bool true), Is (.bool true), Is (.bool true), Is (.bool true), Is (.bool true)]
      (by kernel_rfl) Grew.trans Grew.refl (Grew.refl _).drew (by kernel_rfl) ⟨is_st, is_st, is_st, is_st, is_st, is_st, is_st, is_st, is_st, is_st, Nd.st _, is_st, is_st, is_st, is_st, is_st, Nd.st _, is_st, is_st, is_st, is_st, is_st, is_st, trivial⟩ ?_ rfl ?_
    rotate_left
    · intro y w2 hG hF
      simp only [factsH, Is, and_true, Nat.reduceAdd] at hF
      have hlast := hF.2.2.2.2.2.2.2.2.2.2.2.2.2.2.2.2.2.2.2.2.2.2
      clear hF
      simp only [fillL, Act.put, List.setIfInBounds_toArray, List.set_cons_zero, List.set_cons_succ, List.getD_cons_zero, List.getD_cons_succ, hlast]
      have HGF := Lib.hid (HG.out.trans hG)
      clear hG hlast
      go_wp2_with fail
      go_ret
      exact ⟨rfl, HGF.out⟩
    refine ⟨?_, ?_⟩
    · intro y w2 hG hD K hK
      have dr0 := hG.cell r0
      have dr1 := hG.cell r1
      have dr2 := hG.cell r2
      have dr3 := hG.cell r3
      have dr4 := hG.cell r4
      have dr5 := hG.cell r5
      simp only [fillL, Act.put, List.setIfInBounds_toArray, List.set_cons_zero, List.set_cons_succ, List.getD_cons_zero, List.getD_cons_succ, Is] at hK ⊢
      refine ite_yes (by rfl) ?_
      go_simp
      exact hK _ _ _ rfl (Grew.refl _) rfl
    refine ⟨?_, ?_⟩
    · intro y w2 hG hD K hK
      have dq0 := hG.cell q0
      have dq1 := hG.cell q1
      have dq2 := hG.cell q2
      have dq3 := hG.cell q3
      have dq4 := hG.cell q4
      have dq5 := hG.cell q5
      simp only [fillL, Act.put, List.setIfInBounds_toArray, List.set_cons_zero, List.set_cons_succ, List.getD_cons_zero, List.getD_cons_succ, Is] at hK ⊢
      refine ite_yes (by rfl) ?_
      go_simp
      exact hK _ _ _ rfl (Grew.refl _) rfl
    refine ⟨?_, ?_⟩
    · intro y w2 hG hD K hK
      simp only [depsH, List.getD_cons_zero, List.getD_cons_succ, Is, and_true] at hD
      have h0 := hD.1
      have h1 := hD.2
      clear hD
      simp only [fillL, Act.put, List.setIfInBounds_toArray, List.set_cons_zero, List.set_cons_succ, List.getD_cons_zero, List.getD_cons_succ, Is] at hK ⊢
      simp only [h0, h1] at hK ⊢
      clear h0 h1
      refine ite_yes (by rfl) ?_
      go_simp
      refine (HC1.out w2 (NodeAt.grew hG HT.out) (NodeAt.grew hG HU.out)).mono ?_
      rintro r w3 ⟨rfl, hg3⟩
      exact hK _ _ _ rfl hg3 rfl
    refine ⟨?_, ?_⟩
    · intro y w2 hG hD K hK
      have dr0 := hG.cell r0
      have dr1 := hG.cell r1
      have dr2 := hG.cell r2
      have dr3 := hG.cell r3
      have dr4 := hG.cell r4
      have dr5 := hG.cell r5
      simp only [fillL, Act.put, List.setIfInBounds_toArray, List.set_cons_zero, List.set_cons_succ, List.getD_cons_zero, List.getD_cons_succ, Is] at hK ⊢
      refine ite_yes (by rfl) ?_
      go_simp
      exact hK _ _ _ rfl (Grew.refl _) rfl
    refine ⟨?_, ?_⟩
    · intro y w2 hG hD K hK
      have dq0 := hG.cell q0
      have dq1 := hG.cell q1
      have dq2 := hG.cell q2
      have dq3 := hG.cell q3
      have dq4 := hG.cell q4
      have dq5 := hG.cell q5
      simp only [fillL, Act.put, List.setIfInBounds_toArray, List.set_cons_zero, List.set_cons_succ, List.getD_cons_zero, List.getD_cons_succ, Is] at hK ⊢
      refine ite_yes (by rfl) ?_
      go_simp
      exact hK _ _ _ rfl (Grew.refl _) rfl
    refine ⟨?_, ?_⟩
    · intro y w2 hG hD K hK
      simp only [depsH, List.getD_cons_zero, List.getD_cons_succ, Is, and_true] at hD
      have h0 := hD.1
      have h1 := hD.2.1
      have h2 := hD.2.2.1
      have h3 := hD.2.2.2.1
      have h4 := hD.2.2.2.2
      clear hD
      simp only [fillL, Act.put, List.setIfInBounds_toArray, List.set_cons_zero, List.set_cons_succ, List.getD_cons_zero, List.getD_cons_succ, Is] at hK ⊢
      simp only [h0, h1, h2, h3, h4] at hK ⊢
      clear h0 h1 h2 h3 h4
      refine ite_yes (by rfl) ?_
      go_simp
      refine (HC2.out w2 (NodeAt.grew hG HT.out) (NodeAt.grew hG HU.out)).mono ?_
      rintro r w3 ⟨rfl, hg3⟩
      exact hK _ _ _ rfl hg3 rfl
    refine ⟨?_, ?_⟩
    · intro y w2 hG hD K hK
      simp only [depsH, List.getD_cons_zero, List.getD_cons_succ, Is, and_true] at hD
      have h0 := hD.1
      have h1 := hD.2.1
      have h2 := hD.2.2.1
      have h3 := hD.2.2.2.1
      have h4 := hD.2.2.2.2.1
      have h5 := hD.2.2.2.2.2
      clear hD
      simp only [fillL, Act.put, List.setIfInBounds_toArray, List.set_cons_zero, List.set_cons_succ, List.getD_cons_zero, List.getD_cons_succ, Is] at hK ⊢
      simp only [h0, h1, h2, h3, h4, h5] at hK ⊢
      clear h0 h1 h2 h3 h4 h5
      refine ite_yes (by rfl) ?_
      go_simp
      exact hK _ _ _ rfl (Grew.refl _) (by first | rfl | (show Value.bool _ = Value.bool _; simp) | (show _ = _; simp))
    refine ⟨?_, ?_⟩
    · intro y w2 hG hD K hK
      simp only [depsH, List.getD_cons_zero, List.getD_cons_succ, Is, and_true] at hD
      have h0 := hD.1
      have h1 := hD.2.1
      have h2 := hD.2.2.1
      have h3 := hD.2.2.2.1
      have h4 := hD.2.2.2.2.1
      have h5 := hD.2.2.2.2.2.1
      have h6 := hD.2.2.2.2.2.2
      clear hD
      simp only [fillL, Act.put, List.setIfInBounds_toArray, List.set_cons_zero, List.set_cons_succ, List.getD_cons_zero, List.getD_cons_succ, Is] at hK ⊢
      simp only [h0, h1, h2, h3, h4, h5, h6] at hK ⊢
      clear h0 h1 h2 h3 h4 h5 h6
      refine ite_yes (by rfl) ?_
      go_simp
      exact hK _ _ _ rfl (Grew.refl _) rfl
    refine ⟨?_, ?_⟩
    · intro y w2 hG hD K hK
      simp only [depsH, List.getD_cons_zero, List.getD_cons_succ, Is, and_true] at hD
      have h0 := hD.1
      have h1 := hD.2.1
      have h2 := hD.2.2.1
      have h3 := hD.2.2.2.1
      have h4 := hD.2.2.2.2.1
      have h5 := hD.2.2.2.2.2.1
      have h6 := hD.2.2.2.2.2.2.1
      have h7 := hD.2.2.2.2.2.2.2
      clear hD
      have dr0 := hG.cell r0
      have dr1 := hG.cell r1
      have dr2 := hG.cell r2
      have dr3 := hG.cell r3
      have dr4 := hG.cell r4
      have dr5 := hG.cell r5
      simp only [fillL, Act.put, List.setIfInBounds_toArray, List.set_cons_zero, List.set_cons_succ, List.getD_cons_zero, List.getD_cons_succ, Is] at hK ⊢
      simp only [h0, h1, h2, h3, h4, h5, h6, h7] at hK ⊢
      clear h0 h1 h2 h3 h4 h5 h6 h7
      refine ite_yes (by rfl) ?_
      go_simp
      exact hK _ _ _ rfl (Grew.refl _) rfl
    refine ⟨?_, ?_⟩
    · intro y w2 hG hD K hK
      simp only [depsH, List.getD_cons_zero, List.getD_cons_succ, Is, and_true] at hD
      have h0 := hD.1
      have h1 := hD.2.1
      have h2 := hD.2.2.1
      have h3 := hD.2.2.2.1
      have h4 := hD.2.2.2.2.1
      have h5 := hD.2.2.2.2.2.1
      have h6 := hD.2.2.2.2.2.2.1
      have h7 := hD.2.2.2.2.2.2.2
      clear hD
      have dc0 := hG.cell c0
      have dc1 := hG.cell c1
      have dc2 := hG.cell c2
      have dc3 := hG.cell c3
      have dc4 := hG.cell c4
      have dc5 := hG.cell c5
      simp only [fillL, Act.put, List.setIfInBounds_toArray, List.set_cons_zero, List.set_cons_succ, List.getD_cons_zero, List.getD_cons_succ, Is] at hK ⊢
      simp only [h0, h1, h2, h3, h4, h5, h6, h7] at hK ⊢
      clear h0 h1 h2 h3 h4 h5 h6 h7
      refine ite_yes (by rfl) ?_
      go_simp
      exact hK _ _ _ rfl (Grew.refl _) rfl
    refine ⟨?_, ?_⟩
    · intro y w2 hG hD K hK
      simp only [depsH, List.getD_cons_zero, List.getD_cons_succ, Is, and_true] at hD
      have h0 := hD.1
      have h1 := hD.2.1
      have h2 := hD.2.2.1
      have h3 := hD.2.2.2.1
      have h4 := hD.2.2.2.2.1
      have h5 := hD.2.2.2.2.2.1
      have h6 := hD.2.2.2.2.2.2.1
      have h7 := hD.2.2.2.2.2.2.2.1
      have h9 := hD.2.2.2.2.2.2.2.2
      clear hD
      simp only [fillL, Act.put, List.setIfInBounds_toArray, List.set_cons_zero, List.set_cons_succ, List.getD_cons_zero, List.getD_cons_succ, Is] at hK ⊢
      simp only [h0, h1, h2, h3, h4, h5, h6, h7, h9] at hK ⊢
      clear h0 h1 h2 h3 h4 h5 h6 h7 h9
      refine ite_yes (by rfl) ?_
      go_simp
      refine (few09_any t0 _ w2 (NodeAt.grew hG HA0.out)).mono ?_
      rintro r w3 ⟨v', rfl, hw, hg3⟩
      exact hK _ _ _ rfl hg3 hw
    refine ⟨?_, ?_⟩
    · intro y w2 hG hD K hK
      simp only [depsH, List.getD_cons_zero, List.getD_cons_succ, Is, and_true] at hD
      have h0 := hD.1
      have h1 := hD.2.1
      have h2 := hD.2.2.1
      have h3 := hD.2.2.2.1
      have h4 := hD.2.2.2.2.1
      have h5 := hD.2.2.2.2.2.1
      have h6 := hD.2.2.2.2.2.2.1
      have h7 := hD.2.2.2.2.2.2.2.1
      have h8 := hD.2.2.2.2.2.2.2.2.1
      have h9 := hD.2.2.2.2.2.2.2.2.2.1
      have h10 := hD.2.2.2.2.2.2.2.2.2.2
      clear hD
      simp only [fillL, Act.put, List.setIfInBounds_toArray, List.set_cons_zero, List.set_cons_succ, List.getD_cons_zero, List.getD_cons_succ, Is] at hK ⊢
      simp only [h0, h1, h2, h3, h4, h5, h6, h7, h8, h9] at hK ⊢
      clear h0 h1 h2 h3 h4 h5 h6 h7 h8 h9
      refine ite_yes (by rfl) ?_
      go_simp
      refine (eqnode_any _ (cutT t0) (Nat.le_refl _) (cutT t0) _ _ w2 (NodeAt.grew hG HT.out) h10).mono ?_
      rintro r w3 ⟨bb, rfl, hbb, hg3⟩
      obtain rfl : bb = true := hbb.2 rfl
      exact hK _ _ _ rfl hg3 rfl
    refine ⟨?_, ?_⟩
    · intro y w2 hG hD K hK
      simp only [depsH, List.getD_cons_zero, List.getD_cons_succ, Is, and_true] at hD
      have h0 := hD.1
      have h1 := hD.2.1
      have h2 := hD.2.2.1
      have h3 := hD.2.2.2.1
      have h4 := hD.2.2.2.2.1
      have h5 := hD.2.2.2.2.2.1
      have h6 := hD.2.2.2.2.2.2.1
      have h7 := hD.2.2.2.2.2.2.2.1
      have h8 := hD.2.2.2.2.2.2.2.2.1
      have h9 := hD.2.2.2.2.2.2.2.2.2.1
      have h10 := hD.2.2.2.2.2.2.2.2.2.2.1
      have h11 := hD.2.2.2.2.2.2.2.2.2.2.2
      clear hD
      simp only [fillL, Act.put, List.setIfInBounds_toArray, List.set_cons_zero, List.set_cons_succ, List.getD_cons_zero, List.getD_cons_succ, Is] at hK ⊢
      simp only [h0, h1, h2, h3, h4, h5, h6, h7, h8, h9, h11] at hK ⊢
      clear h0 h1 h2 h3 h4 h5 h6 h7 h8 h9 h11
      refine ite_yes (by rfl) ?_
      go_simp
      exact hK _ _ _ rfl (Grew.refl _) rfl
    refine ⟨?_, ?_⟩
    · intro y w2 hG hD K hK
      simp only [depsH, List.getD_cons_zero, List.getD_cons_succ, Is, and_true] at hD
      have h0 := hD.1
      have h1 := hD.2.1
      have h2 := hD.2.2.1
      have h3 := hD.2.2.2.1
      have h4 := hD.2.2.2.2.1
      have h5 := hD.2.2.2.2.2.1
      have h6 := hD.2.2.2.2.2.2.1
      have h7 := hD.2.2.2.2.2.2.2.1
      have h8 := hD.2.2.2.2.2.2.2.2.1
      have h9 := hD.2.2.2.2.2.2.2.2.2.1
      have h10 := hD.2.2.2.2.2.2.2.2.2.2.1
      have h11 := hD.2.2.2.2.2.2.2.2.2.2.2.1
      have h12 := hD.2.2.2.2.2.2.2.2.2.2.2.2
      clear hD
      simp only [fillL, Act.put, List.setIfInBounds_toArray, List.set_cons_zero, List.set_cons_succ, List.getD_cons_zero, List.getD_cons_succ, Is] at hK ⊢
      simp only [h0, h1, h2, h3, h4, h5, h6, h7, h8, h9, h11, h12] at hK ⊢
      clear h0 h1 h2 h3 h4 h5 h6 h7 h8 h9 h11 h12
      refine ite_yes (by rfl) ?_
      go_simp
      exact hK _ _ _ rfl (Grew.refl _) rfl
    refine ⟨?_, ?_⟩
    · intro y w2 hG hD K hK
      simp only [depsH, List.getD_cons_zero, List.getD_cons_succ, Is, and_true] at hD
      have h0 := hD.1
      have h1 := hD.2.1
      have h2 := hD.2.2.1
      have h3 := hD.2.2.2.1
      have h4 := hD.2.2.2.2.1
      have h5 := hD.2.2.2.2.2.1
      have h6 := hD.2.2.2.2.2.2.1
      have h7 := hD.2.2.2.2.2.2.2.1
      have h8 := hD.2.2.2.2.2.2.2.2.1
      have h9 := hD.2.2.2.2.2.2.2.2.2.1
      have h10 := hD.2.2.2.2.2.2.2.2.2.2.1
      have h11 := hD.2.2.2.2.2.2.2.2.2.2.2.1
      have h12 := hD.2.2.2.2.2.2.2.2.2.2.2.2.1
      have h13 := hD.2.2.2.2.2.2.2.2.2.2.2.2.2
      clear hD
      have dq0 := hG.cell q0
      have dq1 := hG.cell q1
      have dq2 := hG.cell q2
      have dq3 := hG.cell q3
      have dq4 := hG.cell q4
      have dq5 := hG.cell q5
      simp only [fillL, Act.put, List.setIfInBounds_toArray, List.set_cons_zero, List.set_cons_succ, List.getD_cons_zero, List.getD_cons_succ, Is] at hK ⊢
      simp only [h0, h1, h2, h3, h4, h5, h6, h7, h8, h9, h11, h12, h13] at hK ⊢
      clear h0 h1 h2 h3 h4 h5 h6 h7 h8 h9 h11 h12 h13
      refine ite_yes (by rfl) ?_
      go_simp
      exact hK _ _ _ rfl (Grew.refl _) rfl
    refine ⟨?_, ?_⟩
    · intro y w2 hG hD K hK
      simp only [depsH, List.getD_cons_zero, List.getD_cons_succ, Is, and_true] at hD
      have h0 := hD.1
      have h1 := hD.2.1
      have h2 := hD.2.2.1
      have h3 := hD.2.2.2.1
      have h4 := hD.2.2.2.2.1
      have h5 := hD.2.2.2.2.2.1
      have h6 := hD.2.2.2.2.2.2.1
      have h7 := hD.2.2.2.2.2.2.2.1
      have h8 := hD.2.2.2.2.2.2.2.2.1
      have h9 := hD.2.2.2.2.2.2.2.2.2.1
      have h10 := hD.2.2.2.2.2.2.2.2.2.2.1
      have h11 := hD.2.2.2.2.2.2.2.2.2.2.2.1
      have h12 := hD.2.2.2.2.2.2.2.2.2.2.2.2.1
      have h13 := hD.2.2.2.2.2.2.2.2.2.2.2.2.2
      clear hD
      have de0 := hG.cell e0
      have de1 := hG.cell e1
      have de2 := hG.cell e2
      have de3 := hG.cell e3
      have de4 := hG.cell e4
      have de5 := hG.cell e5
      simp only [fillL, Act.put, List.setIfInBounds_toArray, List.set_cons_zero, List.set_cons_succ, List.getD_cons_zero, List.getD_cons_succ, Is] at hK ⊢
      simp only [h0, h1, h2, h3, h4, h5, h6, h7, h8, h9, h11, h12, h13] at hK ⊢
      clear h0 h1 h2 h3 h4 h5 h6 h7 h8 h9 h11 h12 h13
      refine ite_yes (by rfl) ?_
      go_simp
      exact hK _ _ _ rfl (Grew.refl _) rfl
    refine ⟨?_, ?_⟩
    · intro y w2 hG hD K hK
      simp only [depsH, List.getD_cons_zero, List.getD_cons_succ, Is, and_true] at hD
      have h0 := hD.1
      have h1 := hD.2.1
      have h2 := hD.2.2.1
      have h3 := hD.2.2.2.1
      have h4 := hD.2.2.2.2.1
      have h5 := hD.2.2.2.2.2.1
      have h6 := hD.2.2.2.2.2.2.1
      have h7 := hD.2.2.2.2.2.2.2.1
      have h8 := hD.2.2.2.2.2.2.2.2.1
      have h9 := hD.2.2.2.2.2.2.2.2.2.1
      have h10 := hD.2.2.2.2.2.2.2.2.2.2.1
      have h11 := hD.2.2.2.2.2.2.2.2.2.2.2.1
      have h12 := hD.2.2.2.2.2.2.2.2.2.2.2.2.1
      have h13 := hD.2.2.2.2.2.2.2.2.2.2.2.2.2.1
      have h15 := hD.2.2.2.2.2.2.2.2.2.2.2.2.2.2
      clear hD
      simp only [fillL, Act.put, List.setIfInBounds_toArray, List.set_cons_zero, List.set_cons_succ, List.getD_cons_zero, List.getD_cons_succ, Is] at hK ⊢
      simp only [h0, h1, h2, h3, h4, h5, h6, h7, h8, h9, h11, h12, h13, h15] at hK ⊢
      clear h0 h1 h2 h3 h4 h5 h6 h7 h8 h9 h11 h12 h13 h15
      refine ite_yes (by rfl) ?_
      go_simp
      refine (few09_any t1 _ w2 (NodeAt.grew hG HA1.out)).mono ?_
      rintro r w3 ⟨v', rfl, hw, hg3⟩
      exact hK _ _ _ rfl hg3 hw
    refine ⟨?_, ?_⟩
    · intro y w2 hG hD K hK
      simp only [depsH, List.getD_cons_zero, List.getD_cons_succ, Is, and_true] at hD
      have h0 := hD.1
      have h1 := hD.2.1
      have h2 := hD.2.2.1
      have h3 := hD.2.2.2.1
      have h4 := hD.2.2.2.2.1
      have h5 := hD.2.2.2.2.2.1
      have h6 := hD.2.2.2.2.2.2.1
      have h7 := hD.2.2.2.2.2.2.2.1
      have h8 := hD.2.2.2.2.2.2.2.2.1
      have h9 := hD.2.2.2.2.2.2.2.2.2.1
      have h10 := hD.2.2.2.2.2.2.2.2.2.2.1
      have h11 := hD.2.2.2.2.2.2.2.2.2.2.2.1
      have h12 := hD.2.2.2.2.2.2.2.2.2.2.2.2.1
      have h13 := hD.2.2.2.2.2.2.2.2.2.2.2.2.2.1
      have h14 := hD.2.2.2.2.2.2.2.2.2.2.2.2.2.2.1
      have h15 := hD.2.2.2.2.2.2.2.2.2.2.2.2.2.2.2.1
      have h16 := hD.2.2.2.2.2.2.2.2.2.2.2.2.2.2.2.2
      clear hD
      simp only [fillL, Act.put, List.setIfInBounds_toArray, List.set_cons_zero, List.set_cons_succ, List.getD_cons_zero, List.getD_cons_succ, Is] at hK ⊢
      simp only [h0, h1, h2, h3, h4, h5, h6, h7, h8, h9, h11, h12, h13, h14, h15] at hK ⊢
      clear h0 h1 h2 h3 h4 h5 h6 h7 h8 h9 h11 h12 h13 h14 h15
      refine ite_yes (by rfl) ?_
      go_simp
      refine (eqnode_any _ (cutT t1) (Nat.le_refl _) (cutT t1) _ _ w2 (NodeAt.grew hG HU.out) h16).mono ?_
      rintro r w3 ⟨bb, rfl, hbb, hg3⟩
      obtain rfl : bb = true := hbb.2 rfl
      exact hK _ _ _ rfl hg3 rfl
    refine ⟨?_, ?_⟩
    · intro y w2 hG hD K hK
      simp only [depsH, List.getD_cons_zero, List.getD_cons_succ, Is, and_true] at hD
      have h0 := hD.1
      have h1 := hD.2.1
      have h2 := hD.2.2.1
      have h3 := hD.2.2.2.1
      have h4 := hD.2.2.2.2.1
      have h5 := hD.2.2.2.2.2.1
      have h6 := hD.2.2.2.2.2.2.1
      have h7 := hD.2.2.2.2.2.2.2.1
      have h8 := hD.2.2.2.2.2.2.2.2.1
      have h9 := hD.2.2.2.2.2.2.2.2.2.1
      have h10 := hD.2.2.2.2.2.2.2.2.2.2.1
      have h11 := hD.2.2.2.2.2.2.2.2.2.2.2.1
      have h12 := hD.2.2.2.2.2.2.2.2.2.2.2.2.1
      have h13 := hD.2.2.2.2.2.2.2.2.2.2.2.2.2.1
      have h14 := hD.2.2.2.2.2.2.2.2.2.2.2.2.2.2.1
      have h15 := hD.2.2.2.2.2.2.2.2.2.2.2.2.2.2.2.1
      have h16 := hD.2.2.2.2.2.2.2.2.2.2.2.2.2.2.2.2.1
      have h17 := hD.2.2.2.2.2.2.2.2.2.2.2.2.2.2.2.2.2
      clear hD
      simp only [fillL, Act.put, List.setIfInBounds_toArray, List.set_cons_zero, List.set_cons_succ, List.getD_cons_zero, List.getD_cons_succ, Is] at hK ⊢
      simp only [h0, h1, h2, h3, h4, h5, h6, h7, h8, h9, h11, h12, h13, h14, h15, h17] at hK ⊢
      clear h0 h1 h2 h3 h4 h5 h6 h7 h8 h9 h11 h12 h13 h14 h15 h17
      refine ite_yes (by rfl) ?_
      go_simp
      exact hK _ _ _ rfl (Grew.refl _) rfl
    refine ⟨?_, ?_⟩
    · intro y w2 hG hD K hK
      simp only [depsH, List.getD_cons_zero, List.getD_cons_succ, Is, and_true] at hD
      have h0 := hD.1
      have h1 := hD.2.1
      have h2 := hD.2.2.1
      have h3 := hD.2.2.2.1
      have h4 := hD.2.2.2.2.1
      have h5 := hD.2.2.2.2.2.1
      have h6 := hD.2.2.2.2.2.2.1
      have h7 := hD.2.2.2.2.2.2.2.1
      have h8 := hD.2.2.2.2.2.2.2.2.1
      have h9 := hD.2.2.2.2.2.2.2.2.2.1
      have h10 := hD.2.2.2.2.2.2.2.2.2.2.1
      have h11 := hD.2.2.2.2.2.2.2.2.2.2.2.1
      have h12 := hD.2.2.2.2.2.2.2.2.2.2.2.2.1
      have h13 := hD.2.2.2.2.2.2.2.2.2.2.2.2.2.1
      have h14 := hD.2.2.2.2.2.2.2.2.2.2.2.2.2.2.1
      have h15 := hD.2.2.2.2.2.2.2.2.2.2.2.2.2.2.2.1
      have h16 := hD.2.2.2.2.2.2.2.2.2.2.2.2.2.2.2.2.1
      have h17 := hD.2.2.2.2.2.2.2.2.2.2.2.2.2.2.2.2.2.1
      have h18 := hD.2.2.2.2.2.2.2.2.2.2.2.2.2.2.2.2.2.2
      clear hD
      simp only [fillL, Act.put, List.setIfInBounds_toArray, List.set_cons_zero, List.set_cons_succ, List.getD_cons_zero, List.getD_cons_succ, Is] at hK ⊢
      simp only [h0, h1, h2, h3, h4, h5, h6, h7, h8, h9, h11, h12, h13, h14, h15, h17, h18] at hK ⊢
      clear h0 h1 h2 h3 h4 h5 h6 h7 h8 h9 h11 h12 h13 h14 h15 h17 h18
      refine ite_yes (by rfl) ?_
      go_simp
      exact hK _ _ _ rfl (Grew.refl _) rfl
    refine ⟨?_, ?_⟩
    · intro y w2 hG hD K hK
      simp only [depsH, List.getD_cons_zero, List.getD_cons_succ, Is, and_true] at hD
      have h0 := hD.1
      have h1 := hD.2.1
      have h2 := hD.2.2.1
      have h3 := hD.2.2.2.1
      have h4 := hD.2.2.2.2.1
      have h5 := hD.2.2.2.2.2.1
      have h6 := hD.2.2.2.2.2.2.1
      have h7 := hD.2.2.2.2.2.2.2.1
      have h8 := hD.2.2.2.2.2.2.2.2.1
      have h9 := hD.2.2.2.2.2.2.2.2.2.1
      have h10 := hD.2.2.2.2.2.2.2.2.2.2.1
      have h11 := hD.2.2.2.2.2.2.2.2.2.2.2.1
      have h12 := hD.2.2.2.2.2.2.2.2.2.2.2.2.1
      have h13 := hD.2.2.2.2.2.2.2.2.2.2.2.2.2.1
      have h14 := hD.2.2.2.2.2.2.2.2.2.2.2.2.2.2.1
      have h15 := hD.2.2.2.2.2.2.2.2.2.2.2.2.2.2.2.1
      have h16 := hD.2.2.2.2.2.2.2.2.2.2.2.2.2.2.2.2.1
      have h17 := hD.2.2.2.2.2.2.2.2.2.2.2.2.2.2.2.2.2.1
      have h18 := hD.2.2.2.2.2.2.2.2.2.2.2.2.2.2.2.2.2.2.1
      have h19 := hD.2.2.2.2.2.2.2.2.2.2.2.2.2.2.2.2.2.2.2
      clear hD
      simp only [fillL, Act.put, List.setIfInBounds_toArray, List.set_cons_zero, List.set_cons_succ, List.getD_cons_zero, List.getD_cons_succ, Is] at hK ⊢
      simp only [h0, h1, h2, h3, h4, h5, h6, h7, h8, h9, h11, h12, h13, h14, h15, h17, h18, h19] at hK ⊢
      clear h0 h1 h2 h3 h4 h5 h6 h7 h8 h9 h11 h12 h13 h14 h15 h17 h18 h19
      refine ite_yes (by rfl) ?_
      go_simp
      refine (works09_any w2).mono ?_
      rintro r w3 ⟨rfl, hg3⟩
      exact hK _ _ _ rfl hg3 rfl
    refine ⟨?_, ?_⟩
    · intro y w2 hG hD K hK
      simp only [depsH, List.getD_cons_zero, List.getD_cons_succ, Is, and_true] at hD
      have h0 := hD.1
      have h1 := hD.2.1
      have h2 := hD.2.2.1
      have h3 := hD.2.2.2.1
      have h4 := hD.2.2.2.2.1
      have h5 := hD.2.2.2.2.2.1
      have h6 := hD.2.2.2.2.2.2.1
      have h7 := hD.2.2.2.2.2.2.2.1
      have h8 := hD.2.2.2.2.2.2.2.2.1
      have h9 := hD.2.2.2.2.2.2.2.2.2.1
      have h10 := hD.2.2.2.2.2.2.2.2.2.2.1
      have h11 := hD.2.2.2.2.2.2.2.2.2.2.2.1
      have h12 := hD.2.2.2.2.2.2.2.2.2.2.2.2.1
      have h13 := hD.2.2.2.2.2.2.2.2.2.2.2.2.2.1
      have h14 := hD.2.2.2.2.2.2.2.2.2.2.2.2.2.2.1
      have h15 := hD.2.2.2.2.2.2.2.2.2.2.2.2.2.2.2.1
      have h16 := hD.2.2.2.2.2.2.2.2.2.2.2.2.2.2.2.2.1
      have h17 := hD.2.2.2.2.2.2.2.2.2.2.2.2.2.2.2.2.2.1
      have h18 := hD.2.2.2.2.2.2.2.2.2.2.2.2.2.2.2.2.2.2.1
      have h19 := hD.2.2.2.2.2.2.2.2.2.2.2.2.2.2.2.2.2.2.2.1
      have h20 := hD.2.2.2.2.2.2.2.2.2.2.2.2.2.2.2.2.2.2.2.2
      clear hD
      simp only [fillL, Act.put, List.setIfInBounds_toArray, List.set_cons_zero, List.set_cons_succ, List.getD_cons_zero, List.getD_cons_succ, Is] at hK ⊢
      simp only [h0, h1, h2, h3, h4, h5, h6, h7, h8, h9, h11, h12, h13, h14, h15, h17, h18, h19, h20] at hK ⊢
      clear h0 h1 h2 h3 h4 h5 h6 h7 h8 h9 h11 h12 h13 h14 h15 h17 h18 h19 h20
      refine ite_yes (by rfl) ?_
      go_simp
      exact hK _ _ _ rfl (Grew.refl _) rfl
    refine ⟨?_, ?_⟩
    · intro y w2 hG hD K hK
      simp only [depsH, List.getD_cons_zero, List.getD_cons_succ, Is, and_true] at hD
      have h0 := hD.1
      have h1 := hD.2.1
      have h2 := hD.2.2.1
      have h3 := hD.2.2.2.1
      have h4 := hD.2.2.2.2.1
      have h5 := hD.2.2.2.2.2.1
      have h6 := hD.2.2.2.2.2.2.1
      have h7 := hD.2.2.2.2.2.2.2.1
      have h8 := hD.2.2.2.2.2.2.2.2.1
      have h9 := hD.2.2.2.2.2.2.2.2.2.1
      have h10 := hD.2.2.2.2.2.2.2.2.2.2.1
      have h11 := hD.2.2.2.2.2.2.2.2.2.2.2.1
      have h12 := hD.2.2.2.2.2.2.2.2.2.2.2.2.1
      have h13 := hD.2.2.2.2.2.2.2.2.2.2.2.2.2.1
      have h14 := hD.2.2.2.2.2.2.2.2.2.2.2.2.2.2.1
      have h15 := hD.2.2.2.2.2.2.2.2.2.2.2.2.2.2.2.1
      have h16 := hD.2.2.2.2.2.2.2.2.2.2.2.2.2.2.2.2.1
      have h17 := hD.2.2.2.2.2.2.2.2.2.2.2.2.2.2.2.2.2.1
      have h18 := hD.2.2.2.2.2.2.2.2.2.2.2.2.2.2.2.2.2.2.1
      have h19 := hD.2.2.2.2.2.2.2.2.2.2.2.2.2.2.2.2.2.2.2.1
      have h20 := hD.2.2.2.2.2.2.2.2.2.2.2.2.2.2.2.2.2.2.2.2.1
      have h21 := hD.2.2.2.2.2.2.2.2.2.2.2.2.2.2.2.2.2.2.2.2.2
      clear hD
      simp only [fillL, Act.put, List.setIfInBounds_toArray, List.set_cons_zero, List.set_cons_succ, List.getD_cons_zero, List.getD_cons_succ, Is] at hK ⊢
      simp only [h0, h1, h2, h3, h4, h5, h6, h7, h8, h9, h11, h12, h13, h14, h15, h17, h18, h19, h20, h21] at hK ⊢
      clear h0 h1 h2 h3 h4 h5 h6 h7 h8 h9 h11 h12 h13 h14 h15 h17 h18 h19 h20 h21
      refine ite_yes (by rfl) ?_
      go_simp
      exact hK _ _ _ rfl (Grew.refl _) rfl
    trivial
  refine ⟨?_, ?_⟩
  · intro y w2 hG hD K hK
    have dc0 := hG.cell c0
    have dc1 := hG.cell c1
    have dc2 := hG.cell c2
    have dc3 := hG.cell c3
    have dc4 := hG.cell c4
    have dc5 := hG.cell c5
    simp only [fillL, Act.put, List.setIfInBounds_toArray, List.set_cons_zero, List.set_cons_succ, List.getD_cons_zero, List.getD_cons_succ, Is] at hK ⊢
    refine ite_yes (by rfl) ?_
    go_simp
    exact hK _ _ _ rfl (Grew.refl _) rfl trivial
  refine ⟨?_, ?_⟩
  · intro y w2 hG hD K hK
    simp only [depsH, List.getD_cons_zero, List.getD_cons_succ, Is, and_true] at hD
    have h0 := hD
    clear hD
    simp only [fillL, Act.put, List.setIfInBounds_toArray, List.set_cons_zero, List.set_cons_succ, List.getD_cons_zero, List.getD_cons_succ, Is] at hK ⊢
    simp only [h0] at hK ⊢
    clear h0
    refine ite_yes (by rfl) ?_
    go_simp
    refine (few09o_any t0 _ w2 (NodeAt.grew hG HA0.out)).mono ?_
    rintro r w3 ⟨v', rfl, ho, hg3⟩
    exact hK _ _ _ rfl hg3 ho.node (OwnV.made hG.size ho)
  refine ⟨?_, ?_⟩
  · intro y w2 hG hD K hK
    have de0 := hG.cell e0
    have de1 := hG.cell e1
    have de2 := hG.cell e2
    have de3 := hG.cell e3
    have de4 := hG.cell e4
    have de5 := hG.cell e5
    simp only [fillL, Act.put, List.setIfInBounds_toArray, List.set_cons_zero, List.set_cons_succ, List.getD_cons_zero, List.getD_cons_succ, Is] at hK ⊢
    refine ite_yes (by rfl) ?_
    go_simp
    exact hK _ _ _ rfl (Grew.refl _) rfl trivial
  refine ⟨?_, ?_⟩
  · intro y w2 hG hD K hK
    simp only [depsH, List.getD_cons_zero, List.getD_cons_succ, Is, and_true] at hD
    have h0 := hD.1
    have h1 := hD.2.1
    have h2 := hD.2.2
    clear hD
    simp only [fillL, Act.put, List.setIfInBounds_toArray, List.set_cons_zero, List.set_cons_succ, List.getD_cons_zero, List.getD_cons_succ, Is] at hK ⊢
    simp only [h0, h2] at hK ⊢
    clear h0 h2
    refine ite_yes (by rfl) ?_
    go_simp
    refine (few09o_any t1 _ w2 (NodeAt.grew hG HA1.out)).mono ?_
    rintro r w3 ⟨v', rfl, ho, hg3⟩
    exact hK _ _ _ rfl hg3 ho.node (OwnV.made hG.size ho)
  refine ⟨?_, ?_⟩
  · intro y w2 hG hD K hK
    simp only [fillL, Act.put, List.setIfInBounds_toArray, List.set_cons_zero, List.set_cons_succ, List.getD_cons_zero, List.getD_cons_succ, Is] at hK ⊢
    refine ite_yes (by rfl) ?_
    go_simp
    obtain ⟨S, hS1, hS2⟩ := NewV.made w2
    exact hK _ _ _ rfl ((Grew.refl _).alloc _) ⟨S, hS1⟩ ⟨S, hS1, hS2⟩
  refine ⟨?_, ?_⟩
  · intro y w2 hG hD K hK
    simp only [fillL, Act.put, List.setIfInBounds_toArray, List.set_cons_zero, List.set_cons_succ, List.getD_cons_zero, List.getD_cons_succ, Is] at hK ⊢
    refine ite_yes (by rfl) ?_
    go_simp
    obtain ⟨S, hS1, hS2⟩ := NewV.made w2
    exact hK _ _ _ rfl ((Grew.refl _).alloc _) ⟨S, hS1⟩ ⟨S, hS1, hS2⟩
  trivial
theorem normalAlike_own : ownKnob Try.prog.godebug = none := by kernel_rfl
theorem normalAlike_laidOut : laidOutB Try.prog = true := by kernel_rfl

set_option maxRecDepth 100000 in
theorem normalAlike_lifted (os : Os) (started : os.Started) (H : Type) (enc : TypeId × Value → H) :
    ReturnsInHanded {} Try.checked os 4 .any (Rows.normalAlikeSpec.pre6 enc Try.prog Try.f4 Rows.normalAlikeRow.domain false) (Rows.normalAlikeSpec.post enc Try.prog Try.f4 false true false false) := by
  refine returnsInHanded_of_change (C := Try.checked) normalAlike_own started (by kernel_rfl) Try.func4
    (ChangeSpec.witness6 (enc := enc) (C := Try.checked) false ⟨#[], #[.agg #[.int .i64 0, .int .i64 0, .int .u64 0, .string ⟨#[]⟩, .slice none 0 0, .slice none 0 0], .agg #[.int .i64 0, .int .i64 0, .int .u64 0, .string ⟨#[]⟩, .slice none 0 0, .slice none 0 0]], []⟩ 8 (by kernel_rfl) (by kernel_rfl) (by kernel_rfl) (by kernel_rfl)) ?_
  intro W base args ds gs before hval0 hW hcnd _
  have hval : ∀ (j : Nat) t v, Try.f4.params[j]? = some t → args[j]? = some v → Value.okWide Try.prog W .any base t v := hval0
  have hW' := hW
  obtain ⟨p, q, hA0, hV, rfl, hfz, hnd⟩ := hW
  have hA : DataW.TrodAll enc Try.prog W 0 (fun _ => true) true Try.f4.params.toList args.toList ds p := hA0
  rw [Try.params4] at hA hval
  obtain ⟨v0, vs0, d0, ds0, p0, q0, hargs, rfl, rfl, h0, r0⟩ := trodAll_cons hA
  obtain ⟨v1, vs1, d1, ds1, p1, q1, rfl, rfl, rfl, h1, r1⟩ := trodAll_cons r0
  obtain ⟨rfl, rfl, rfl⟩ := trodAll_nil r1
  obtain rfl : args = #[v0, v1] := by cases args; simp_all
  obtain ⟨rfl, rfl⟩ := trodVars_none hV
  have lt0 : ∀ x ∈ p0, x.block < W.heap.size := by obtain ⟨m, hm⟩ := h0; exact DataW.trod_lt m _ _ _ hm
  have lt1 : ∀ x ∈ p1, x.block < W.heap.size := by obtain ⟨m, hm⟩ := h1; exact DataW.trod_lt m _ _ _ hm
  have hw := normalAlike_row enc W base v0 d0 p0 (hval 0 26 v0 rfl rfl) h0 v1 d1 p1 (hval 1 26 v1 rfl rfl) h1
  clear hA0 hval0
  refine hw.mono fun e W' ⟨he, bel⟩ => ?_
  subst he
  exact ⟨_, rfl, _, _, _, [], _, [], hW', trodAll_mk1 (shut_bool Try.underlying4 _), (trodAll_cons_mk (Below.trod normalAlike_laidOut (by kernel_rfl) (of_decide_eq_true (by kernel_rfl)) h0 bel lt0) (trodAll_cons_mk (Below.trod normalAlike_laidOut (by kernel_rfl) (of_decide_eq_true (by kernel_rfl)) h1 bel lt1) trodAll_mk0)), rfl, Below.frame bel _, fun h => by cases h⟩

/-- The statement. -/
theorem normalAlike_holds : Rows.NormalAlikeSaid :=
  OpenClaim.holds_of_wide 4 Try.f4 rfl rfl rfl rfl rfl rfl rfl ⟨rfl, rfl, rfl, rfl, rfl⟩ rfl rfl rfl rfl rfl (by kernel_rfl) Try.func4 (by kernel_rfl)
    (of_decide_eq_true (by kernel_rfl)) (by unfold Func.isWrapper; first | (rw [if_pos (by decide +kernel)]; kernel_rfl) | (rw [if_neg (by decide +kernel)]; exact ⟨rfl, rfl⟩))
    (fun os started H enc _ => normalAlike_lifted os started H enc)
end Go.Proofs.Ytfbeepkogcmlmaa
