/-
  'DenoteSays': At agrees with the reference. Conditions: none beyond the statement's own.
-/
import Derived.Test.YtlhliolknaopjaaRows
import Derived.Test.YtlhliolknaopjaaPF
import Derived.Test.YtlhliolknaopjaaPI
import Derived.ProofKit
import Derived.OpenShut
import Derived.ShutString
import Derived.ChangeOld
import Derived.Below
import Derived.Lib.SmallJoins
import Derived.Deep.QuietTactic
import Derived.BigQuiet
import Derived.Deep.CutBlock
import Derived.Deep.DeepCutAuto
namespace Go.Proofs.Ytlhliolknaopjaa
open Go Go.ChangeShapes Go.WideShapes Go.ChangeAt Go.RowKit Go.Joins
open Go.ChangeMaps (open_string shut_string)
open Go.Deep
set_option linter.unusedVariables false
set_option linter.unusedSimpArgs false

set_option maxRecDepth 100000 in
set_option maxHeartbeats 8000000 in
theorem denoteSays_row {H : Type} (enc : TypeId × Value → H) (W : World) (base : Nat) (v0 : Value) (d0 : DataW H) (p0 : List MemPlace) (o0 : Value.okWide Try.prog W .any base 22 v0) (k0 : DataW.Trod enc Try.prog W 0 (fun _ => true) true 22 v0 d0 p0) (v1 : Value) (d1 : DataW H) (p1 : List MemPlace) (o1 : Value.okWide Try.prog W .any base 35 v1) (k1 : DataW.Trod enc Try.prog W 0 (fun _ => true) true 35 v1 d1 p1) (v2 : Value) (d2 : DataW H) (p2 : List MemPlace) (o2 : Value.okWide Try.prog W .any base 27 v2) (k2 : DataW.Trod enc Try.prog W 0 (fun _ => true) true 27 v2 d2 p2) :
    Calls Try.prog 4 #[v0, v1, v2] W fun e w' => e = .returned (.bool true) ∧ Below W.heap.size W w' := by
  obtain ⟨pos, par, typ, wid, rfl, hpos⟩ := open_ref o1 k1
  have HPOS := Lib.hid hpos
  clear o1 k1 hpos
  obtain ⟨d0, hb0, hl0⟩ := open_bytes o0 k0
  have HB := Lib.hid hb0
  have HL0 := Lib.hid hl0
  obtain ⟨ba, bc, rfl⟩ : ∃ a c, v0 = .slice a d0.length c := by
    obtain ⟨a, c, e, _⟩ := hb0
    exact ⟨a, c, e⟩
  clear o0 k0 hb0 hl0
  obtain ⟨t2, hn2⟩ := open_node o2 k2
  have HA2 := Lib.hid hn2
  obtain ⟨tak, tan, tau, tas, taa4, tan4, tac4, taa5, tan5, tac5, rfl⟩ := hn2.node6
  clear o2 k2 hn2
  show Calls _ _ _ W fun e w' => e = .returned (.bool true) ∧ Grew W w'
  have HG := Lib.hid (Grew.refl W)
  go_enter Try.func4, Try.ntmps4
  go_upto_region 1 with fail
  obtain ⟨pf, hpf⟩ : ∃ N, W.heap.size = N := ⟨_, rfl⟩
  have hr1 := heap_alloc_new W (.cells #[.int .i64 pos, .int .i64 par, .int .i64 typ, .int .i64 wid] 35)
  have hga := (Grew.refl W).alloc (.cells #[.int .i64 pos, .int .i64 par, .int .i64 typ, .int .i64 wid] 35)
  have hz1 : (W.alloc (.cells #[.int .i64 pos, .int .i64 par, .int .i64 typ, .int .i64 wid] 35)).heap.size = pf + 1 := by rw [World.size_alloc, hpf]
  generalize (W.alloc (.cells #[.int .i64 pos, .int .i64 par, .int .i64 typ, .int .i64 wid] 35)) = x1 at *
  rw [hpf] at hr1
  try rw [hpf]
  have HRF := Lib.hid hr1
  clear hr1 hpf
  replace HB := Lib.hid (BytesAt.grew HB.out hga)
  replace HA2 := Lib.hid (NodeAt.grew hga HA2.out)
  replace HG := Lib.hid (HG.out.trans hga)
  clear hga
  have hr2 := heap_alloc_new x1 (.cells #[.int .i64 tak, .int .i64 tan, .int .u64 tau, .string tas, .slice taa4 tan4 tac4, .slice taa5 tan5 tac5] 27)
  have hga := (Grew.refl x1).alloc (.cells #[.int .i64 tak, .int .i64 tan, .int .u64 tau, .string tas, .slice taa4 tan4 tac4, .slice taa5 tan5 tac5] 27)
  generalize (x1.alloc (.cells #[.int .i64 tak, .int .i64 tan, .int .u64 tau, .string tas, .slice taa4 tan4 tac4, .slice taa5 tan5 tac5] 27)) = x2 at *
  rw [hz1] at hr2
  try rw [hz1]
  have HRA := Lib.hid hr2
  clear hr2 hz1
  replace HB := Lib.hid (BytesAt.grew HB.out hga)
  replace HA2 := Lib.hid (NodeAt.grew hga HA2.out)
  replace HRF := Lib.hid (hga.heap HRF.out)
  replace HG := Lib.hid (HG.out.trans hga)
  clear hga
  have c0 := row_cellT HRA.out 0 _ rfl
  have c1 := row_cellT HRA.out 1 _ rfl
  have c2 := row_cellT HRA.out 2 _ rfl
  have c3 := row_cellT HRA.out 3 _ rfl
  have c4 := row_cellT HRA.out 4 _ rfl
  have c5 := row_cellT HRA.out 5 _ rfl
  refine wp_region_tablesS Grew 5 [[], [0], [], [0, 1, 2], [], [0, 1, 2, 3, 4], [0, 1, 2, 3, 4, 5]] [[(11, 2), (8, 4)], [(9, 0), (11, 2), (8, 4)], [(9, 0), (10, 1), (8, 4)], [(9, 0), (10, 1), (11, 2), (8, 4)], [(9, 0), (10, 1), (11, 2), (12, 3)], [(9, 0), (10, 1), (11, 2), (12, 3), (8, 4)], [(9, 0), (10, 1), (11, 2), (12, 3), (8, 4), (7, 5)]] [(9, 0), (10, 1), (11, 2), (12, 3), (8, 4)]
    [Is (.slice ba d0.length bc), fun v w => DocAt w v (cutB d0), Is (.agg #[.int .i64 tak, .int .i64 tan, .int .u64 tau, .string tas, .slice taa4 tan4 tac4, .slice taa5 tan5 tac5]), Nd (cutF t2), fun v w => ∃ S, NewV v S w]
    [none, some (OwnD x2.heap.size (cutB d0)), none, some (OwnV x2.heap.size (cutF t2)), some (NewV)]
    (by kernel_rfl) Grew.trans Grew.refl (Grew.refl _).drew (by kernel_rfl) ⟨is_st, fun _ _ _ hg h => DocAt.grew h hg, is_st, Nd.st _, fun _ _ _ hg ⟨S, h⟩ => ⟨S, NewV.st _ _ _ _ hg h⟩, trivial⟩ (fun _ _ h => Grew.size h) ⟨OwnD.st _ _, OwnV.st _ _, NewV.st, trivial⟩ rfl ?_ ?_
  rotate_left
  · intro y w2 hG hF hS
    simp only [factsH, Is, and_true, Nat.reduceAdd] at hF
    have h0 := hF.1
    have h1 := hF.2.1
    have h2 := hF.2.2.1
    have h3 := hF.2.2.2.1
    have h4 := hF.2.2.2.2
    clear hF
    simp only [fillL, Act.put, List.setIfInBounds_toArray, List.set_cons_zero, List.set_cons_succ, List.getD_cons_zero, List.getD_cons_succ, List.drop_succ_cons, List.drop_zero]
    simp only [h0, h2]
    clear h0 h2
    obtain ⟨σ, hS⟩ := hS
    have hs1 := hS.said 1 (by decide) _ rfl
    obtain ⟨xa1, xc1, e1, hxc1⟩ := h1.form
    rw [e1] at hs1
    have hs3 := hS.said 3 (by decide) _ rfl
    obtain ⟨fk, fn, fu, fs, fa4, fn4, fc4, fa5, fn5, fc5, e3⟩ := hs3.node6
    rw [e3] at hs3
    obtain ⟨g, e4, hσ4, hz4⟩ := hS.said 4 (by decide) _ rfl
    have hbg4 := (hS.bound 4 (by decide) g hσ4).1
    simp only [e1, e3, e4]
    refine wpList_over rfl _ rfl ?_
    simp only [Act.put, List.setIfInBounds_toArray, List.set_cons_zero, List.set_cons_succ]
    have HGG := Lib.hid (HG.out.trans hG)
    refine wpList_store6 rfl _ _ rfl rfl g fk fn fu fs fa4 fn4 fc4 fa5 fn5 fc5 rfl rfl _ _ _ _ _ _ hz4 ?_
    intro v1 hm HRr
    replace hs1 : OwnD _ _ _ (σ 1) v1 := ⟨Moved.owns hm hs1.1 (fun g' hg' e => hS.apart 1 4 (by decide) (by decide) (by decide) g' (hs1.2 g' hg') (by rw [e]; exact hσ4)), hs1.2⟩
    replace hs3 : OwnT v1 _ _ _ (σ 3) := OwnT.kept hm hs3 (fun g' hg' e => hS.apart 3 4 (by decide) (by decide) (by decide) g' hg' (by rw [e]; exact hσ4))
    have HGX : Hid (Grew x2 v1) := Moved.fresh hG hm (fun g' e => by have h2 := hbg4; have h3 : g' = g := e; omega)
    replace HGG := Lib.hid (Moved.fresh HGG.out hm (fun g' e => by have h1 := HG.out.size; have h2 := hbg4; have h3 : g' = g := e; omega))
    clear hm
    have HD := Lib.hid (doc_own hs1.1 (cutB_len _))
    have HT : Hid (NodeAt v1 (cutF t2) (.agg #[.int .i64 fk, .int .i64 fn, .int .u64 fu, .string fs, .slice fa4 fn4 fc4, .slice fa5 fn5 fc5])) := hs3.node
    have HR := Lib.hid HRr
    replace HG := HGG
    clear HGG hG hS hs1 h1 e1 hxc1 hs3 h3 e3 hz4 hσ4 hbg4 e4 HRr
    have HG0 := Lib.hid (show Grew x2 v1 from HGX.out)
    replace HRA := Lib.hid (HG0.out.heap HRA.out)
    replace HB := Lib.hid (BytesAt.grew HB.out HG0.out)
    replace HA2 := Lib.hid (NodeAt.grew HG0.out HA2.out)
    replace HRF := Lib.hid (HG0.out.heap HRF.out)
    clear c0 c1 c2 c3 c4 c5
    have HOK := Lib.hid (cutF_ok t2)
    have r0 := row_cellT HR.out 0 _ rfl
    have r1 := row_cellT HR.out 1 _ rfl
    have r2 := row_cellT HR.out 2 _ rfl
    have r3 := row_cellT HR.out 3 _ rfl
    have r4 := row_cellT HR.out 4 _ rfl
    have r5 := row_cellT HR.out 5 _ rfl
    have c0 := row_cellT HRA.out 0 _ rfl
    have c1 := row_cellT HRA.out 1 _ rfl
    have c2 := row_cellT HRA.out 2 _ rfl
    have c3 := row_cellT HRA.out 3 _ rfl
    have c4 := row_cellT HRA.out 4 _ rfl
    have c5 := row_cellT HRA.out 5 _ rfl
    have q0 := row_cellT HRF.out 0 _ rfl
    have q1 := row_cellT HRF.out 1 _ rfl
    have q2 := row_cellT HRF.out 2 _ rfl
    have q3 := row_cellT HRF.out 3 _ rfl
    obtain ⟨hv, hhv⟩ : ∃ b, saysF (cutB d0) typ pos par wid pos (cutF t2) = b := ⟨_, rfl⟩
    have h1 := fun w h1 h2 => At_any (cutB d0) (.slice xa1 (cutB d0).length xc1) pos par typ wid (cutF t2) HOK.out (.agg #[.int .i64 fk, .int .i64 fn, .int .u64 fu, .string fs, .slice fa4 fn4 fc4, .slice fa5 fn5 fc5]) w h1 h2 HPOS.out
    have h2 := fun w h1 h2 => rAt_any (cutB d0) (.slice xa1 (cutB d0).length xc1) pos par typ wid (cutF t2) HOK.out (.agg #[.int .i64 fk, .int .i64 fn, .int .u64 fu, .string fs, .slice fa4 fn4 fc4, .slice fa5 fn5 fc5]) w h1 h2 HPOS.out
    rw [hhv] at h1 h2
    have HC1 := Lib.hid h1
    have HC2 := Lib.hid h2
    clear h1 h2 hhv
    go_upto_region 2 with fail
    refine wp_region_tables Grew [[], [], [], [0, 1, 2], [], [], [], [0, 1, 2, 3, 4, 5, 6], [0, 1, 2, 3, 4, 5, 6, 7], [0, 1, 2, 3, 4, 5, 6, 7, 8], [0, 1, 2, 3, 4, 5, 6, 7, 8, 9], [0, 1, 2, 3, 4, 5, 6, 7, 8, 9], [0, 1, 2, 3, 4, 5, 6, 7, 8, 9, 11], [0, 1, 2, 3, 4, 5, 6, 7, 8, 9, 10, 11, 12], [0, 1, 2, 3, 4, 5, 6, 7, 8, 9, 10, 11, 12, 13], [0, 1, 2, 3, 4, 5, 6, 7, 8, 9, 10, 11, 12, 13, 14], [0, 1, 2, 3, 4, 5, 6, 7, 8, 9, 10, 11, 12, 13, 14, 15], [0, 1, 2, 3, 4, 5, 6, 7, 8, 9, 10, 11, 12, 13, 14, 15], [0, 1, 2, 3, 4, 5, 6, 7, 8, 9, 10, 11, 12, 13, 14, 15, 17], [0, 1, 2, 3, 4, 5, 6, 7, 8, 9, 10, 11, 12, 13, 14, 15, 16, 17, 18], [0, 1, 2, 3, 4, 5, 6, 7, 8, 9, 10, 11, 12, 13, 14, 15, 16, 17, 18, 19], [0, 1, 2, 3, 4, 5, 6, 7, 8, 9, 10, 11, 12, 13, 14, 15, 16, 17, 18, 19, 20], [0, 1, 2, 3, 4, 5, 6, 7, 8, 9, 10, 11, 12, 13, 14, 15, 16, 17, 18, 19, 20, 21], [0, 1, 2, 3, 4, 5, 6, 7, 8, 9, 10, 11, 12, 13, 14, 15, 16, 17, 18, 19, 20, 21, 22], [0, 1, 2, 3, 4, 5, 6, 7, 8, 9, 10, 11, 12, 13, 14, 15, 16, 17, 18, 19, 20, 21, 22, 23]] [[(14, 1), (15, 2), (17, 4), (18, 5), (19, 6)], [(13, 0), (15, 2), (17, 4), (18, 5), (19, 6)], [(13, 0), (14, 1), (17, 4), (18, 5), (19, 6)], [(13, 0), (14, 1), (15, 2), (17, 4), (18, 5), (19, 6)], [(13, 0), (14, 1), (15, 2), (16, 3), (18, 5), (19, 6)], [(13, 0), (14, 1), (15, 2), (16, 3), (17, 4), (19, 6)], [(13, 0), (14, 1), (15, 2), (16, 3), (17, 4), (18, 5)], [(13, 0), (14, 1), (15, 2), (16, 3), (17, 4), (18, 5), (19, 6)], [(13, 0), (14, 1), (15, 2), (16, 3), (17, 4), (18, 5), (19, 6), (20, 7)], [(13, 0), (14, 1), (15, 2), (16, 3), (17, 4), (18, 5), (19, 6), (20, 7), (21, 8)], [(13, 0), (14, 1), (15, 2), (16, 3), (17, 4), (18, 5), (19, 6), (20, 7), (21, 8), (22, 9), (24, 11), (25, 12)], [(13, 0), (14, 1), (15, 2), (16, 3), (17, 4), (18, 5), (19, 6), (20, 7), (21, 8), (22, 9), (23, 10)], [(13, 0), (14, 1), (15, 2), (16, 3), (17, 4), (18, 5), (19, 6), (20, 7), (21, 8), (22, 9), (23, 10), (24, 11)], [(13, 0), (14, 1), (15, 2), (16, 3), (17, 4), (18, 5), (19, 6), (20, 7), (21, 8), (22, 9), (23, 10), (24, 11), (25, 12)], [(13, 0), (14, 1), (15, 2), (16, 3), (17, 4), (18, 5), (19, 6), (20, 7), (21, 8), (22, 9), (23, 10), (24, 11), (25, 12), (26, 13)], [(13, 0), (14, 1), (15, 2), (16, 3), (17, 4), (18, 5), (19, 6), (20, 7), (21, 8), (22, 9), (23, 10), (24, 11), (25, 12), (26, 13), (27, 14)], [(13, 0), (14, 1), (15, 2), (16, 3), (17, 4), (18, 5), (19, 6), (20, 7), (21, 8), (22, 9), (23, 10), (24, 11), (25, 12), (26, 13), (27, 14), (28, 15), (30, 17), (31, 18)], [(13, 0), (14, 1), (15, 2), (16, 3), (17, 4), (18, 5), (19, 6), (20, 7), (21, 8), (22, 9), (23, 10), (24, 11), (25, 12), (26, 13), (27, 14), (28, 15), (29, 16)], [(13, 0), (14, 1), (15, 2), (16, 3), (17, 4), (18, 5), (19, 6), (20, 7), (21, 8), (22, 9), (23, 10), (24, 11), (25, 12), (26, 13), (27, 14), (28, 15), (29, 16), (30, 17)], [(13, 0), (14, 1), (15, 2), (16, 3), (17, 4), (18, 5), (19, 6), (20, 7), (21, 8), (22, 9), (23, 10), (24, 11), (25, 12), (26, 13), (27, 14), (28, 15), (29, 16), (30, 17), (31, 18)], [(13, 0), (14, 1), (15, 2), (16, 3), (17, 4), (18, 5), (19, 6), (20, 7), (21, 8), (22, 9), (23, 10), (24, 11), (25, 12), (26, 13), (27, 14), (28, 15), (29, 16), (30, 17), (31, 18), (32, 19)], [(13, 0), (14, 1), (15, 2), (16, 3), (17, 4), (18, 5), (19, 6), (20, 7), (21, 8), (22, 9), (23, 10), (24, 11), (25, 12), (26, 13), (27, 14), (28, 15), (29, 16), (30, 17), (31, 18), (32, 19), (33, 20)], [(13, 0), (14, 1), (15, 2), (16, 3), (17, 4), (18, 5), (19, 6), (20, 7), (21, 8), (22, 9), (23, 10), (24, 11), (25, 12), (26, 13), (27, 14), (28, 15), (29, 16), (30, 17), (31, 18), (32, 19), (33, 20), (34, 21)], [(13, 0), (14, 1), (15, 2), (16, 3), (17, 4), (18, 5), (19, 6), (20, 7), (21, 8), (22, 9), (23, 10), (24, 11), (25, 12), (26, 13), (27, 14), (28, 15), (29, 16), (30, 17), (31, 18), (32, 19), (33, 20), (34, 21), (35, 22)], [(13, 0), (14, 1), (15, 2), (16, 3), (17, 4), (18, 5), (19, 6), (20, 7), (21, 8), (22, 9), (23, 10), (24, 11), (25, 12), (26, 13), (27, 14), (28, 15), (29, 16), (30, 17), (31, 18), (32, 19), (33, 20), (34, 21), (35, 22), (36, 23)]] [(13, 0), (14, 1), (15, 2), (16, 3), (17, 4), (18, 5), (19, 6), (20, 7), (21, 8), (22, 9), (23, 10), (24, 11), (25, 12), (26, 13), (27, 14), (28, 15), (29, 16), (30, 17), (31, 18), (32, 19), (33, 20), (34, 21), (35, 22), (36, 23), (6, 24)]
      [Is (.slice xa1 (cutB d0).length xc1), Is (.agg #[.int .i64 pos, .int .i64 par, .int .i64 typ, .int .i64 wid]), Is (.agg #[.int .i64 fk, .int .i64 fn, .int .u64 fu, .string fs, .slice fa4 fn4 fc4, .slice fa5 fn5 fc5]), Is (.bool hv), Is (.slice xa1 (cutB d0).length xc1), Is (.agg #[.int .i64 pos, .int .i64 par, .int .i64 typ, .int .i64 wid]), Is (.agg #[.int .i64 fk, .int .i64 fn, .int .u64 fu, .string fs, .slice fa4 fn4 fc4, .slice fa5 fn5 fc5]), Is (.bool hv), Is (.bool true), Is (.bool true), Is (.slice xa1 (cutB d0).length xc1), Is (.slice ba d0.length bc), fun v w => DocAt w v (cutB d0), Is (.bool true), Is (.bool true), Is (.bool true), Is (.agg #[.int .i64 fk, .int .i64 fn, .int .u64 fu, .string fs, .slice fa4 fn4 fc4, .slice fa5 fn5 fc5]), Is (.agg #[.int .i64 tak, .int .i64 tan, .int .u64 tau, .string tas, .slice taa4 tan4 tac4, .slice taa5 tan5 tac5]), Nd (cutF t2), Is (.bool true), Is (.bool true), Is (.bool true), Is (.bool true), Is (.bool true), Is (.bool true)]
      (by kernel_rfl) Grew.trans Grew.refl (Grew.refl _).drew (by kernel_rfl) ⟨is_st, is_st, is_st, is_st, is_st, is_st, is_st, is_st, is_st, is_st, is_st, is_st, fun _ _ _ hg h => DocAt.grew h hg, is_st, is_st, is_st, is_st, is_st, Nd.st _, is_st, is_st, is_st, is_st, is_st, is_st, trivial⟩ ?_ rfl ?_
    rotate_left
    · intro y w2 hG hF
      simp only [factsH, Is, and_true, Nat.reduceAdd] at hF
      have hlast := hF.2.2.2.2.2.2.2.2.2.2.2.2.2.2.2.2.2.2.2.2.2.2.2.2
      clear hF
      simp only [fillL, Act.put, List.setIfInBounds_toArray, List.set_cons_zero, List.set_cons_succ, List.getD_cons_zero, List.getD_cons_succ, hlast]
      have HGF := Lib.hid (HG.out.trans hG)
      clear hG hlast
      go_wp2_with fail
      go_ret
      exact ⟨rfl, HGF.out⟩
    refine ⟨?_, ?_⟩
    · intro y w2 hG hD K hK
      simp only [fillL, Act.put, List.setIfInBounds_toArray, List.set_cons_zero, List.set_cons_succ, List.getD_cons_zero, List.getD_cons_succ, Is] at hK ⊢
      refine ite_yes (by rfl) ?_
      go_simp
      exact hK _ _ _ rfl (Grew.refl _) rfl
    refine ⟨?_, ?_⟩
    · intro y w2 hG hD K hK
      have dq0 := hG.cell q0
      have dq1 := hG.cell q1
      have dq2 := hG.cell q2
      have dq3 := hG.cell q3
      simp only [fillL, Act.put, List.setIfInBounds_toArray, List.set_cons_zero, List.set_cons_succ, List.getD_cons_zero, List.getD_cons_succ, Is] at hK ⊢
      refine ite_yes (by rfl) ?_
      go_simp
      exact hK _ _ _ rfl (Grew.refl _) rfl
    refine ⟨?_, ?_⟩
    · intro y w2 hG hD K hK
      have dr0 := hG.cell r0
      have dr1 := hG.cell r1
      have dr2 := hG.cell r2
      have dr3 := hG.cell r3
      have dr4 := hG.cell r4
      have dr5 := hG.cell r5
      simp only [fillL, Act.put, List.setIfInBounds_toArray, List.set_cons_zero, List.set_cons_succ, List.getD_cons_zero, List.getD_cons_succ, Is] at hK ⊢
      refine ite_yes (by rfl) ?_
      go_simp
      exact hK _ _ _ rfl (Grew.refl _) rfl
    refine ⟨?_, ?_⟩
    · intro y w2 hG hD K hK
      simp only [depsH, List.getD_cons_zero, List.getD_cons_succ, Is, and_true] at hD
      have h0 := hD.1
      have h1 := hD.2.1
      have h2 := hD.2.2
      clear hD
      simp only [fillL, Act.put, List.setIfInBounds_toArray, List.set_cons_zero, List.set_cons_succ, List.getD_cons_zero, List.getD_cons_succ, Is] at hK ⊢
      simp only [h0, h1, h2] at hK ⊢
      clear h0 h1 h2
      refine ite_yes (by rfl) ?_
      go_simp
      refine (HC1.out w2 (DocAt.grew HD.out hG) (NodeAt.grew hG HT.out)).mono ?_
      rintro r w3 ⟨rfl, hg3⟩
      exact hK _ _ _ rfl hg3 rfl
    refine ⟨?_, ?_⟩
    · intro y w2 hG hD K hK
      simp only [fillL, Act.put, List.setIfInBounds_toArray, List.set_cons_zero, List.set_cons_succ, List.getD_cons_zero, List.getD_cons_succ, Is] at hK ⊢
      refine ite_yes (by rfl) ?_
      go_simp
      exact hK _ _ _ rfl (Grew.refl _) rfl
    refine ⟨?_, ?_⟩
    · intro y w2 hG hD K hK
      have dq0 := hG.cell q0
      have dq1 := hG.cell q1
      have dq2 := hG.cell q2
      have dq3 := hG.cell q3
      simp only [fillL, Act.put, List.setIfInBounds_toArray, List.set_cons_zero, List.set_cons_succ, List.getD_cons_zero, List.getD_cons_succ, Is] at hK ⊢
      refine ite_yes (by rfl) ?_
      go_simp
      exact hK _ _ _ rfl (Grew.refl _) rfl
    refine ⟨?_, ?_⟩
    · intro y w2 hG hD K hK
      have dr0 := hG.cell r0
      have dr1 := hG.cell r1
      have dr2 := hG.cell r2
      have dr3 := hG.cell r3
      have dr4 := hG.cell r4
      have dr5 := hG.cell r5
      simp only [fillL, Act.put, List.setIfInBounds_toArray, List.set_cons_zero, List.set_cons_succ, List.getD_cons_zero, List.getD_cons_succ, Is] at hK ⊢
      refine ite_yes (by rfl) ?_
      go_simp
      exact hK _ _ _ rfl (Grew.refl _) rfl
    refine ⟨?_, ?_⟩
    · intro y w2 hG hD K hK
      simp only [depsH, List.getD_cons_zero, List.getD_cons_succ, Is, and_true] at hD
      have h0 := hD.1
      have h1 := hD.2.1
      have h2 := hD.2.2.1
      have h3 := hD.2.2.2.1
      have h4 := hD.2.2.2.2.1
      have h5 := hD.2.2.2.2.2.1
      have h6 := hD.2.2.2.2.2.2
      clear hD
      simp only [fillL, Act.put, List.setIfInBounds_toArray, List.set_cons_zero, List.set_cons_succ, List.getD_cons_zero, List.getD_cons_succ, Is] at hK ⊢
      simp only [h0, h1, h2, h3, h4, h5, h6] at hK ⊢
      clear h0 h1 h2 h3 h4 h5 h6
      refine ite_yes (by rfl) ?_
      go_simp
      refine (HC2.out w2 (DocAt.grew HD.out hG) (NodeAt.grew hG HT.out)).mono ?_
      rintro r w3 ⟨rfl, hg3⟩
      exact hK _ _ _ rfl hg3 rfl
    refine ⟨?_, ?_⟩
    · intro y w2 hG hD K hK
      simp only [depsH, List.getD_cons_zero, List.getD_cons_succ, Is, and_true] at hD
      have h0 := hD.1
      have h1 := hD.2.1
      have h2 := hD.2.2.1
      have h3 := hD.2.2.2.1
      have h4 := hD.2.2.2.2.1
      have h5 := hD.2.2.2.2.2.1
      have h6 := hD.2.2.2.2.2.2.1
      have h7 := hD.2.2.2.2.2.2.2
      clear hD
      simp only [fillL, Act.put, List.setIfInBounds_toArray, List.set_cons_zero, List.set_cons_succ, List.getD_cons_zero, List.getD_cons_succ, Is] at hK ⊢
      simp only [h0, h1, h2, h3, h4, h5, h6, h7] at hK ⊢
      clear h0 h1 h2 h3 h4 h5 h6 h7
      refine ite_yes (by rfl) ?_
      go_simp
      exact hK _ _ _ rfl (Grew.refl _) (by first | rfl | (show Value.bool _ = Value.bool _; simp) | (show _ = _; simp))
    refine ⟨?_, ?_⟩
    · intro y w2 hG hD K hK
      simp only [depsH, List.getD_cons_zero, List.getD_cons_succ, Is, and_true] at hD
      have h0 := hD.1
      have h1 := hD.2.1
      have h2 := hD.2.2.1
      have h3 := hD.2.2.2.1
      have h4 := hD.2.2.2.2.1
      have h5 := hD.2.2.2.2.2.1
      have h6 := hD.2.2.2.2.2.2.1
      have h7 := hD.2.2.2.2.2.2.2.1
      have h8 := hD.2.2.2.2.2.2.2.2
      clear hD
      simp only [fillL, Act.put, List.setIfInBounds_toArray, List.set_cons_zero, List.set_cons_succ, List.getD_cons_zero, List.getD_cons_succ, Is] at hK ⊢
      simp only [h0, h1, h2, h3, h4, h5, h6, h7, h8] at hK ⊢
      clear h0 h1 h2 h3 h4 h5 h6 h7 h8
      refine ite_yes (by rfl) ?_
      go_simp
      exact hK _ _ _ rfl (Grew.refl _) rfl
    refine ⟨?_, ?_⟩
    · intro y w2 hG hD K hK
      simp only [depsH, List.getD_cons_zero, List.getD_cons_succ, Is, and_true] at hD
      have h0 := hD.1
      have h1 := hD.2.1
      have h2 := hD.2.2.1
      have h3 := hD.2.2.2.1
      have h4 := hD.2.2.2.2.1
      have h5 := hD.2.2.2.2.2.1
      have h6 := hD.2.2.2.2.2.2.1
      have h7 := hD.2.2.2.2.2.2.2.1
      have h8 := hD.2.2.2.2.2.2.2.2.1
      have h9 := hD.2.2.2.2.2.2.2.2.2
      clear hD
      simp only [fillL, Act.put, List.setIfInBounds_toArray, List.set_cons_zero, List.set_cons_succ, List.getD_cons_zero, List.getD_cons_succ, Is] at hK ⊢
      simp only [h0, h1, h2, h3, h4, h5, h6, h7, h8, h9] at hK ⊢
      clear h0 h1 h2 h3 h4 h5 h6 h7 h8 h9
      refine ite_yes (by rfl) ?_
      go_simp
      exact hK _ _ _ rfl (Grew.refl _) rfl
    refine ⟨?_, ?_⟩
    · intro y w2 hG hD K hK
      simp only [depsH, List.getD_cons_zero, List.getD_cons_succ, Is, and_true] at hD
      have h0 := hD.1
      have h1 := hD.2.1
      have h2 := hD.2.2.1
      have h3 := hD.2.2.2.1
      have h4 := hD.2.2.2.2.1
      have h5 := hD.2.2.2.2.2.1
      have h6 := hD.2.2.2.2.2.2.1
      have h7 := hD.2.2.2.2.2.2.2.1
      have h8 := hD.2.2.2.2.2.2.2.2.1
      have h9 := hD.2.2.2.2.2.2.2.2.2
      clear hD
      simp only [fillL, Act.put, List.setIfInBounds_toArray, List.set_cons_zero, List.set_cons_succ, List.getD_cons_zero, List.getD_cons_succ, Is] at hK ⊢
      simp only [h0, h1, h2, h3, h4, h5, h6, h7, h8, h9] at hK ⊢
      clear h0 h1 h2 h3 h4 h5 h6 h7 h8 h9
      refine ite_yes (by rfl) ?_
      go_simp
      exact hK _ _ _ rfl (Grew.refl _) rfl
    refine ⟨?_, ?_⟩
    · intro y w2 hG hD K hK
      simp only [depsH, List.getD_cons_zero, List.getD_cons_succ, Is, and_true] at hD
      have h0 := hD.1
      have h1 := hD.2.1
      have h2 := hD.2.2.1
      have h3 := hD.2.2.2.1
      have h4 := hD.2.2.2.2.1
      have h5 := hD.2.2.2.2.2.1
      have h6 := hD.2.2.2.2.2.2.1
      have h7 := hD.2.2.2.2.2.2.2.1
      have h8 := hD.2.2.2.2.2.2.2.2.1
      have h9 := hD.2.2.2.2.2.2.2.2.2.1
      have h11 := hD.2.2.2.2.2.2.2.2.2.2
      clear hD
      simp only [fillL, Act.put, List.setIfInBounds_toArray, List.set_cons_zero, List.set_cons_succ, List.getD_cons_zero, List.getD_cons_succ, Is] at hK ⊢
      simp only [h0, h1, h2, h3, h4, h5, h6, h7, h8, h9, h11] at hK ⊢
      clear h0 h1 h2 h3 h4 h5 h6 h7 h8 h9 h11
      refine ite_yes (by rfl) ?_
      go_simp
      refine (bytes27_any d0 _ w2 (BytesAt.grew HB.out hG) HL0.out).mono ?_
      rintro r w3 ⟨v', rfl, hw, hg3⟩
      exact hK _ _ _ rfl hg3 (doc_own hw (cutB_len _))
    refine ⟨?_, ?_⟩
    · intro y w2 hG hD K hK
      simp only [depsH, List.getD_cons_zero, List.getD_cons_succ, Is, and_true] at hD
      have h0 := hD.1
      have h1 := hD.2.1
      have h2 := hD.2.2.1
      have h3 := hD.2.2.2.1
      have h4 := hD.2.2.2.2.1
      have h5 := hD.2.2.2.2.2.1
      have h6 := hD.2.2.2.2.2.2.1
      have h7 := hD.2.2.2.2.2.2.2.1
      have h8 := hD.2.2.2.2.2.2.2.2.1
      have h9 := hD.2.2.2.2.2.2.2.2.2.1
      have h10 := hD.2.2.2.2.2.2.2.2.2.2.1
      have h11 := hD.2.2.2.2.2.2.2.2.2.2.2.1
      have h12 := hD.2.2.2.2.2.2.2.2.2.2.2.2
      clear hD
      simp only [fillL, Act.put, List.setIfInBounds_toArray, List.set_cons_zero, List.set_cons_succ, List.getD_cons_zero, List.getD_cons_succ, Is] at hK ⊢
      simp only [h0, h1, h2, h3, h4, h5, h6, h7, h8, h9, h10, h11] at hK ⊢
      clear h0 h1 h2 h3 h4 h5 h6 h7 h8 h9 h10 h11
      refine ite_yes (by rfl) ?_
      go_simp
      refine (eqBytes27_any _ _ (cutB d0) (cutB d0) (DocAt.grew HD.out hG).1 h12.1).mono ?_
      rintro r w3 ⟨rfl, rfl⟩
      exact hK _ _ _ rfl (Grew.refl _) (congrArg Value.bool (decide_eq_true rfl))
    refine ⟨?_, ?_⟩
    · intro y w2 hG hD K hK
      simp only [depsH, List.getD_cons_zero, List.getD_cons_succ, Is, and_true] at hD
      have h0 := hD.1
      have h1 := hD.2.1
      have h2 := hD.2.2.1
      have h3 := hD.2.2.2.1
      have h4 := hD.2.2.2.2.1
      have h5 := hD.2.2.2.2.2.1
      have h6 := hD.2.2.2.2.2.2.1
      have h7 := hD.2.2.2.2.2.2.2.1
      have h8 := hD.2.2.2.2.2.2.2.2.1
      have h9 := hD.2.2.2.2.2.2.2.2.2.1
      have h10 := hD.2.2.2.2.2.2.2.2.2.2.1
      have h11 := hD.2.2.2.2.2.2.2.2.2.2.2.1
      have h12 := hD.2.2.2.2.2.2.2.2.2.2.2.2.1
      have h13 := hD.2.2.2.2.2.2.2.2.2.2.2.2.2
      clear hD
      simp only [fillL, Act.put, List.setIfInBounds_toArray, List.set_cons_zero, List.set_cons_succ, List.getD_cons_zero, List.getD_cons_succ, Is] at hK ⊢
      simp only [h0, h1, h2, h3, h4, h5, h6, h7, h8, h9, h10, h11, h13] at hK ⊢
      clear h0 h1 h2 h3 h4 h5 h6 h7 h8 h9 h10 h11 h13
      refine ite_yes (by rfl) ?_
      go_simp
      exact hK _ _ _ rfl (Grew.refl _) rfl
    refine ⟨?_, ?_⟩
    · intro y w2 hG hD K hK
      simp only [depsH, List.getD_cons_zero, List.getD_cons_succ, Is, and_true] at hD
      have h0 := hD.1
      have h1 := hD.2.1
      have h2 := hD.2.2.1
      have h3 := hD.2.2.2.1
      have h4 := hD.2.2.2.2.1
      have h5 := hD.2.2.2.2.2.1
      have h6 := hD.2.2.2.2.2.2.1
      have h7 := hD.2.2.2.2.2.2.2.1
      have h8 := hD.2.2.2.2.2.2.2.2.1
      have h9 := hD.2.2.2.2.2.2.2.2.2.1
      have h10 := hD.2.2.2.2.2.2.2.2.2.2.1
      have h11 := hD.2.2.2.2.2.2.2.2.2.2.2.1
      have h12 := hD.2.2.2.2.2.2.2.2.2.2.2.2.1
      have h13 := hD.2.2.2.2.2.2.2.2.2.2.2.2.2.1
      have h14 := hD.2.2.2.2.2.2.2.2.2.2.2.2.2.2
      clear hD
      simp only [fillL, Act.put, List.setIfInBounds_toArray, List.set_cons_zero, List.set_cons_succ, List.getD_cons_zero, List.getD_cons_succ, Is] at hK ⊢
      simp only [h0, h1, h2, h3, h4, h5, h6, h7, h8, h9, h10, h11, h13, h14] at hK ⊢
      clear h0 h1 h2 h3 h4 h5 h6 h7 h8 h9 h10 h11 h13 h14
      refine ite_yes (by rfl) ?_
      go_simp
      exact hK _ _ _ rfl (Grew.refl _) rfl
    refine ⟨?_, ?_⟩
    · intro y w2 hG hD K hK
      simp only [depsH, List.getD_cons_zero, List.getD_cons_succ, Is, and_true] at hD
      have h0 := hD.1
      have h1 := hD.2.1
      have h2 := hD.2.2.1
      have h3 := hD.2.2.2.1
      have h4 := hD.2.2.2.2.1
      have h5 := hD.2.2.2.2.2.1
      have h6 := hD.2.2.2.2.2.2.1
      have h7 := hD.2.2.2.2.2.2.2.1
      have h8 := hD.2.2.2.2.2.2.2.2.1
      have h9 := hD.2.2.2.2.2.2.2.2.2.1
      have h10 := hD.2.2.2.2.2.2.2.2.2.2.1
      have h11 := hD.2.2.2.2.2.2.2.2.2.2.2.1
      have h12 := hD.2.2.2.2.2.2.2.2.2.2.2.2.1
      have h13 := hD.2.2.2.2.2.2.2.2.2.2.2.2.2.1
      have h14 := hD.2.2.2.2.2.2.2.2.2.2.2.2.2.2.1
      have h15 := hD.2.2.2.2.2.2.2.2.2.2.2.2.2.2.2
      clear hD
      have dr0 := hG.cell r0
      have dr1 := hG.cell r1
      have dr2 := hG.cell r2
      have dr3 := hG.cell r3
      have dr4 := hG.cell r4
      have dr5 := hG.cell r5
      simp only [fillL, Act.put, List.setIfInBounds_toArray, List.set_cons_zero, List.set_cons_succ, List.getD_cons_zero, List.getD_cons_succ, Is] at hK ⊢
      simp only [h0, h1, h2, h3, h4, h5, h6, h7, h8, h9, h10, h11, h13, h14, h15] at hK ⊢
      clear h0 h1 h2 h3 h4 h5 h6 h7 h8 h9 h10 h11 h13 h14 h15
      refine ite_yes (by rfl) ?_
      go_simp
      exact hK _ _ _ rfl (Grew.refl _) rfl
    refine ⟨?_, ?_⟩
    · intro y w2 hG hD K hK
      simp only [depsH, List.getD_cons_zero, List.getD_cons_succ, Is, and_true] at hD
      have h0 := hD.1
      have h1 := hD.2.1
      have h2 := hD.2.2.1
      have h3 := hD.2.2.2.1
      have h4 := hD.2.2.2.2.1
      have h5 := hD.2.2.2.2.2.1
      have h6 := hD.2.2.2.2.2.2.1
      have h7 := hD.2.2.2.2.2.2.2.1
      have h8 := hD.2.2.2.2.2.2.2.2.1
      have h9 := hD.2.2.2.2.2.2.2.2.2.1
      have h10 := hD.2.2.2.2.2.2.2.2.2.2.1
      have h11 := hD.2.2.2.2.2.2.2.2.2.2.2.1
      have h12 := hD.2.2.2.2.2.2.2.2.2.2.2.2.1
      have h13 := hD.2.2.2.2.2.2.2.2.2.2.2.2.2.1
      have h14 := hD.2.2.2.2.2.2.2.2.2.2.2.2.2.2.1
      have h15 := hD.2.2.2.2.2.2.2.2.2.2.2.2.2.2.2
      clear hD
      have dc0 := hG.cell c0
      have dc1 := hG.cell c1
      have dc2 := hG.cell c2
      have dc3 := hG.cell c3
      have dc4 := hG.cell c4
      have dc5 := hG.cell c5
      simp only [fillL, Act.put, List.setIfInBounds_toArray, List.set_cons_zero, List.set_cons_succ, List.getD_cons_zero, List.getD_cons_succ, Is] at hK ⊢
      simp only [h0, h1, h2, h3, h4, h5, h6, h7, h8, h9, h10, h11, h13, h14, h15] at hK ⊢
      clear h0 h1 h2 h3 h4 h5 h6 h7 h8 h9 h10 h11 h13 h14 h15
      refine ite_yes (by rfl) ?_
      go_simp
      exact hK _ _ _ rfl (Grew.refl _) rfl
    refine ⟨?_, ?_⟩
    · intro y w2 hG hD K hK
      simp only [depsH, List.getD_cons_zero, List.getD_cons_succ, Is, and_true] at hD
      have h0 := hD.1
      have h1 := hD.2.1
      have h2 := hD.2.2.1
      have h3 := hD.2.2.2.1
      have h4 := hD.2.2.2.2.1
      have h5 := hD.2.2.2.2.2.1
      have h6 := hD.2.2.2.2.2.2.1
      have h7 := hD.2.2.2.2.2.2.2.1
      have h8 := hD.2.2.2.2.2.2.2.2.1
      have h9 := hD.2.2.2.2.2.2.2.2.2.1
      have h10 := hD.2.2.2.2.2.2.2.2.2.2.1
      have h11 := hD.2.2.2.2.2.2.2.2.2.2.2.1
      have h12 := hD.2.2.2.2.2.2.2.2.2.2.2.2.1
      have h13 := hD.2.2.2.2.2.2.2.2.2.2.2.2.2.1
      have h14 := hD.2.2.2.2.2.2.2.2.2.2.2.2.2.2.1
      have h15 := hD.2.2.2.2.2.2.2.2.2.2.2.2.2.2.2.1
      have h17 := hD.2.2.2.2.2.2.2.2.2.2.2.2.2.2.2.2
      clear hD
      simp only [fillL, Act.put, List.setIfInBounds_toArray, List.set_cons_zero, List.set_cons_succ, List.getD_cons_zero, List.getD_cons_succ, Is] at hK ⊢
      simp only [h0, h1, h2, h3, h4, h5, h6, h7, h8, h9, h10, h11, h13, h14, h15, h17] at hK ⊢
      clear h0 h1 h2 h3 h4 h5 h6 h7 h8 h9 h10 h11 h13 h14 h15 h17
      refine ite_yes (by rfl) ?_
      go_simp
      refine (few27_any t2 _ w2 (NodeAt.grew hG HA2.out)).mono ?_
      rintro r w3 ⟨v', rfl, hw, hg3⟩
      exact hK _ _ _ rfl hg3 hw
    refine ⟨?_, ?_⟩
    · intro y w2 hG hD K hK
      simp only [depsH, List.getD_cons_zero, List.getD_cons_succ, Is, and_true] at hD
      have h0 := hD.1
      have h1 := hD.2.1
      have h2 := hD.2.2.1
      have h3 := hD.2.2.2.1
      have h4 := hD.2.2.2.2.1
      have h5 := hD.2.2.2.2.2.1
      have h6 := hD.2.2.2.2.2.2.1
      have h7 := hD.2.2.2.2.2.2.2.1
      have h8 := hD.2.2.2.2.2.2.2.2.1
      have h9 := hD.2.2.2.2.2.2.2.2.2.1
      have h10 := hD.2.2.2.2.2.2.2.2.2.2.1
      have h11 := hD.2.2.2.2.2.2.2.2.2.2.2.1
      have h12 := hD.2.2.2.2.2.2.2.2.2.2.2.2.1
      have h13 := hD.2.2.2.2.2.2.2.2.2.2.2.2.2.1
      have h14 := hD.2.2.2.2.2.2.2.2.2.2.2.2.2.2.1
      have h15 := hD.2.2.2.2.2.2.2.2.2.2.2.2.2.2.2.1
      have h16 := hD.2.2.2.2.2.2.2.2.2.2.2.2.2.2.2.2.1
      have h17 := hD.2.2.2.2.2.2.2.2.2.2.2.2.2.2.2.2.2.1
      have h18 := hD.2.2.2.2.2.2.2.2.2.2.2.2.2.2.2.2.2.2
      clear hD
      simp only [fillL, Act.put, List.setIfInBounds_toArray, List.set_cons_zero, List.set_cons_succ, List.getD_cons_zero, List.getD_cons_succ, Is] at hK ⊢
      simp only [h0, h1, h2, h3, h4, h5, h6, h7, h8, h9, h10, h11, h13, h14, h15, h16, h17] at hK ⊢
      clear h0 h1 h2 h3 h4 h5 h6 h7 h8 h9 h10 h11 h13 h14 h15 h16 h17
      refine ite_yes (by rfl) ?_
      go_simp
      refine (eqnode_any _ (cutF t2) (Nat.le_refl _) (cutF t2) _ _ w2 (NodeAt.grew hG HT.out) h18).mono ?_
      rintro r w3 ⟨bb, rfl, hbb, hg3⟩
      obtain rfl : bb = true := hbb.2 rfl
      exact hK _ _ _ rfl hg3 rfl
    refine ⟨?_, ?_⟩
    · intro y w2 hG hD K hK
      simp only [depsH, List.getD_cons_zero, List.getD_cons_succ, Is, and_true] at hD
      have h0 := hD.1
      have h1 := hD.2.1
      have h2 := hD.2.2.1
      have h3 := hD.2.2.2.1
      have h4 := hD.2.2.2.2.1
      have h5 := hD.2.2.2.2.2.1
      have h6 := hD.2.2.2.2.2.2.1
      have h7 := hD.2.2.2.2.2.2.2.1
      have h8 := hD.2.2.2.2.2.2.2.2.1
      have h9 := hD.2.2.2.2.2.2.2.2.2.1
      have h10 := hD.2.2.2.2.2.2.2.2.2.2.1
      have h11 := hD.2.2.2.2.2.2.2.2.2.2.2.1
      have h12 := hD.2.2.2.2.2.2.2.2.2.2.2.2.1
      have h13 := hD.2.2.2.2.2.2.2.2.2.2.2.2.2.1
      have h14 := hD.2.2.2.2.2.2.2.2.2.2.2.2.2.2.1
      have h15 := hD.2.2.2.2.2.2.2.2.2.2.2.2.2.2.2.1
      have h16 := hD.2.2.2.2.2.2.2.2.2.2.2.2.2.2.2.2.1
      have h17 := hD.2.2.2.2.2.2.2.2.2.2.2.2.2.2.2.2.2.1
      have h18 := hD.2.2.2.2.2.2.2.2.2.2.2.2.2.2.2.2.2.2.1
      have h19 := hD.2.2.2.2.2.2.2.2.2.2.2.2.2.2.2.2.2.2.2
      clear hD
      simp only [fillL, Act.put, List.setIfInBounds_toArray, List.set_cons_zero, List.set_cons_succ, List.getD_cons_zero, List.getD_cons_succ, Is] at hK ⊢
      simp only [h0, h1, h2, h3, h4, h5, h6, h7, h8, h9, h10, h11, h13, h14, h15, h16, h17, h19] at hK ⊢
      clear h0 h1 h2 h3 h4 h5 h6 h7 h8 h9 h10 h11 h13 h14 h15 h16 h17 h19
      refine ite_yes (by rfl) ?_
      go_simp
      exact hK _ _ _ rfl (Grew.refl _) rfl
    refine ⟨?_, ?_⟩
    · intro y w2 hG hD K hK
      simp only [depsH, List.getD_cons_zero, List.getD_cons_succ, Is, and_true] at hD
      have h0 := hD.1
      have h1 := hD.2.1
      have h2 := hD.2.2.1
      have h3 := hD.2.2.2.1
      have h4 := hD.2.2.2.2.1
      have h5 := hD.2.2.2.2.2.1
      have h6 := hD.2.2.2.2.2.2.1
      have h7 := hD.2.2.2.2.2.2.2.1
      have h8 := hD.2.2.2.2.2.2.2.2.1
      have h9 := hD.2.2.2.2.2.2.2.2.2.1
      have h10 := hD.2.2.2.2.2.2.2.2.2.2.1
      have h11 := hD.2.2.2.2.2.2.2.2.2.2.2.1
      have h12 := hD.2.2.2.2.2.2.2.2.2.2.2.2.1
      have h13 := hD.2.2.2.2.2.2.2.2.2.2.2.2.2.1
      have h14 := hD.2.2.2.2.2.2.2.2.2.2.2.2.2.2.1
      have h15 := hD.2.2.2.2.2.2.2.2.2.2.2.2.2.2.2.1
      have h16 := hD.2.2.2.2.2.2.2.2.2.2.2.2.2.2.2.2.1
      have h17 := hD.2.2.2.2.2.2.2.2.2.2.2.2.2.2.2.2.2.1
      have h18 := hD.2.2.2.2.2.2.2.2.2.2.2.2.2.2.2.2.2.2.1
      have h19 := hD.2.2.2.2.2.2.2.2.2.2.2.2.2.2.2.2.2.2.2.1
      have h20 := hD.2.2.2.2.2.2.2.2.2.2.2.2.2.2.2.2.2.2.2.2
      clear hD
      simp only [fillL, Act.put, List.setIfInBounds_toArray, List.set_cons_zero, List.set_cons_succ, List.getD_cons_zero, List.getD_cons_succ, Is] at hK ⊢
      simp only [h0, h1, h2, h3, h4, h5, h6, h7, h8, h9, h10, h11, h13, h14, h15, h16, h17, h19, h20] at hK ⊢
      clear h0 h1 h2 h3 h4 h5 h6 h7 h8 h9 h10 h11 h13 h14 h15 h16 h17 h19 h20
      refine ite_yes (by rfl) ?_
      go_simp
      exact hK _ _ _ rfl (Grew.refl _) rfl
    refine ⟨?_, ?_⟩
    · intro y w2 hG hD K hK
      simp only [depsH, List.getD_cons_zero, List.getD_cons_succ, Is, and_true] at hD
      have h0 := hD.1
      have h1 := hD.2.1
      have h2 := hD.2.2.1
      have h3 := hD.2.2.2.1
      have h4 := hD.2.2.2.2.1
      have h5 := hD.2.2.2.2.2.1
      have h6 := hD.2.2.2.2.2.2.1
      have h7 := hD.2.2.2.2.2.2.2.1
      have h8 := hD.2.2.2.2.2.2.2.2.1
      have h9 := hD.2.2.2.2.2.2.2.2.2.1
      have h10 := hD.2.2.2.2.2.2.2.2.2.2.1
      have h11 := hD.2.2.2.2.2.2.2.2.2.2.2.1
      have h12 := hD.2.2.2.2.2.2.2.2.2.2.2.2.1
      have h13 := hD.2.2.2.2.2.2.2.2.2.2.2.2.2.1
      have h14 := hD.2.2.2.2.2.2.2.2.2.2.2.2.2.2.1
      have h15 := hD.2.2.2.2.2.2.2.2.2.2.2.2.2.2.2.1
      have h16 := hD.2.2.2.2.2.2.2.2.2.2.2.2.2.2.2.2.1
      have h17 := hD.2.2.2.2.2.2.2.2.2.2.2.2.2.2.2.2.2.1
      have h18 := hD.2.2.2.2.2.2.2.2.2.2.2.2.2.2.2.2.2.2.1
      have h19 := hD.2.2.2.2.2.2.2.2.2.2.2.2.2.2.2.2.2.2.2.1
      have h20 := hD.2.2.2.2.2.2.2.2.2.2.2.2.2.2.2.2.2.2.2.2.1
      have h21 := hD.2.2.2.2.2.2.2.2.2.2.2.2.2.2.2.2.2.2.2.2.2
      clear hD
      simp only [fillL, Act.put, List.setIfInBounds_toArray, List.set_cons_zero, List.set_cons_succ, List.getD_cons_zero, List.getD_cons_succ, Is] at hK ⊢
      simp only [h0, h1, h2, h3, h4, h5, h6, h7, h8, h9, h10, h11, h13, h14, h15, h16, h17, h19, h20, h21] at hK ⊢
      clear h0 h1 h2 h3 h4 h5 h6 h7 h8 h9 h10 h11 h13 h14 h15 h16 h17 h19 h20 h21
      refine ite_yes (by rfl) ?_
      go_simp
      refine (works27_any w2).mono ?_
      rintro r w3 ⟨rfl, hg3⟩
      exact hK _ _ _ rfl hg3 rfl
    refine ⟨?_, ?_⟩
    · intro y w2 hG hD K hK
      simp only [depsH, List.getD_cons_zero, List.getD_cons_succ, Is, and_true] at hD
      have h0 := hD.1
      have h1 := hD.2.1
      have h2 := hD.2.2.1
      have h3 := hD.2.2.2.1
      have h4 := hD.2.2.2.2.1
      have h5 := hD.2.2.2.2.2.1
      have h6 := hD.2.2.2.2.2.2.1
      have h7 := hD.2.2.2.2.2.2.2.1
      have h8 := hD.2.2.2.2.2.2.2.2.1
      have h9 := hD.2.2.2.2.2.2.2.2.2.1
      have h10 := hD.2.2.2.2.2.2.2.2.2.2.1
      have h11 := hD.2.2.2.2.2.2.2.2.2.2.2.1
      have h12 := hD.2.2.2.2.2.2.2.2.2.2.2.2.1
      have h13 := hD.2.2.2.2.2.2.2.2.2.2.2.2.2.1
      have h14 := hD.2.2.2.2.2.2.2.2.2.2.2.2.2.2.1
      have h15 := hD.2.2.2.2.2.2.2.2.2.2.2.2.2.2.2.1
      have h16 := hD.2.2.2.2.2.2.2.2.2.2.2.2.2.2.2.2.1
      have h17 := hD.2.2.2.2.2.2.2.2.2.2.2.2.2.2.2.2.2.1
      have h18 := hD.2.2.2.2.2.2.2.2.2.2.2.2.2.2.2.2.2.2.1
      have h19 := hD.2.2.2.2.2.2.2.2.2.2.2.2.2.2.2.2.2.2.2.1
      have h20 := hD.2.2.2.2.2.2.2.2.2.2.2.2.2.2.2.2.2.2.2.2.1
      have h21 := hD.2.2.2.2.2.2.2.2.2.2.2.2.2.2.2.2.2.2.2.2.2.1
      have h22 := hD.2.2.2.2.2.2.2.2.2.2.2.2.2.2.2.2.2.2.2.2.2.2
      clear hD
      simp only [fillL, Act.put, List.setIfInBounds_toArray, List.set_cons_zero, List.set_cons_succ, List.getD_cons_zero, List.getD_cons_succ, Is] at hK ⊢
      simp only [h0, h1, h2, h3, h4, h5, h6, h7, h8, h9, h10, h11, h13, h14, h15, h16, h17, h19, h20, h21, h22] at hK ⊢
      clear h0 h1 h2 h3 h4 h5 h6 h7 h8 h9 h10 h11 h13 h14 h15 h16 h17 h19 h20 h21 h22
      refine ite_yes (by rfl) ?_
      go_simp
      exact hK _ _ _ rfl (Grew.refl _) rfl
    refine ⟨?_, ?_⟩
    · intro y w2 hG hD K hK
      simp only [depsH, List.getD_cons_zero, List.getD_cons_succ, Is, and_true] at hD
      have h0 := hD.1
      have h1 := hD.2.1
      have h2 := hD.2.2.1
      have h3 := hD.2.2.2.1
      have h4 := hD.2.2.2.2.1
      have h5 := hD.2.2.2.2.2.1
      have h6 := hD.2.2.2.2.2.2.1
      have h7 := hD.2.2.2.2.2.2.2.1
      have h8 := hD.2.2.2.2.2.2.2.2.1
      have h9 := hD.2.2.2.2.2.2.2.2.2.1
      have h10 := hD.2.2.2.2.2.2.2.2.2.2.1
      have h11 := hD.2.2.2.2.2.2.2.2.2.2.2.1
      have h12 := hD.2.2.2.2.2.2.2.2.2.2.2.2.1
      have h13 := hD.2.2.2.2.2.2.2.2.2.2.2.2.2.1
      have h14 := hD.2.2.2.2.2.2.2.2.2.2.2.2.2.2.1
      have h15 := hD.2.2.2.2.2.2.2.2.2.2.2.2.2.2.2.1
      have h16 := hD.2.2.2.2.2.2.2.2.2.2.2.2.2.2.2.2.1
      have h17 := hD.2.2.2.2.2.2.2.2.2.2.2.2.2.2.2.2.2.1
      have h18 := hD.2.2.2.2.2.2.2.2.2.2.2.2.2.2.2.2.2.2.1
      have h19 := hD.2.2.2.2.2.2.2.2.2.2.2.2.2.2.2.2.2.2.2.1
      have h20 := hD.2.2.2.2.2.2.2.2.2.2.2.2.2.2.2.2.2.2.2.2.1
      have h21 := hD.2.2.2.2.2.2.2.2.2.2.2.2.2.2.2.2.2.2.2.2.2.1
      have h22 := hD.2.2.2.2.2.2.2.2.2.2.2.2.2.2.2.2.2.2.2.2.2.2.1
      have h23 := hD.2.2.2.2.2.2.2.2.2.2.2.2.2.2.2.2.2.2.2.2.2.2.2
      clear hD
      simp only [fillL, Act.put, List.setIfInBounds_toArray, List.set_cons_zero, List.set_cons_succ, List.getD_cons_zero, List.getD_cons_succ, Is] at hK ⊢
      simp only [h0, h1, h2, h3, h4, h5, h6, h7, h8, h9, h10, h11, h13, h14, h15, h16, h17, h19, h20, h21, h22, h23] at hK ⊢
      clear h0 h1 h2 h3 h4 h5 h6 h7 h8 h9 h10 h11 h13 h14 h15 h16 h17 h19 h20 h21 h22 h23
      refine ite_yes (by rfl) ?_
      go_simp
      exact hK _ _ _ rfl (Grew.refl _) rfl
    trivial
  refine ⟨?_, ?_⟩
  · intro y w2 hG hD K hK
    simp only [fillL, Act.put, List.setIfInBounds_toArray, List.set_cons_zero, List.set_cons_succ, List.getD_cons_zero, List.getD_cons_succ, Is] at hK ⊢
    refine ite_yes (by rfl) ?_
    go_simp
    exact hK _ _ _ rfl (Grew.refl _) rfl trivial
  refine ⟨?_, ?_⟩
  · intro y w2 hG hD K hK
    simp only [depsH, List.getD_cons_zero, List.getD_cons_succ, Is, and_true] at hD
    have h0 := hD
    clear hD
    simp only [fillL, Act.put, List.setIfInBounds_toArray, List.set_cons_zero, List.set_cons_succ, List.getD_cons_zero, List.getD_cons_succ, Is] at hK ⊢
    simp only [h0] at hK ⊢
    clear h0
    refine ite_yes (by rfl) ?_
    go_simp
    refine (bytes27_any d0 _ w2 (HB.out.grew hG) HL0.out).mono ?_
    rintro r w3 ⟨v', rfl, ho, hg3⟩
    exact hK _ _ _ rfl hg3 (doc_own ho (cutB_len _)) (OwnD.made hG.size ho)
  refine ⟨?_, ?_⟩
  · intro y w2 hG hD K hK
    have dc0 := hG.cell c0
    have dc1 := hG.cell c1
    have dc2 := hG.cell c2
    have dc3 := hG.cell c3
    have dc4 := hG.cell c4
    have dc5 := hG.cell c5
    simp only [fillL, Act.put, List.setIfInBounds_toArray, List.set_cons_zero, List.set_cons_succ, List.getD_cons_zero, List.getD_cons_succ, Is] at hK ⊢
    refine ite_yes (by rfl) ?_
    go_simp
    exact hK _ _ _ rfl (Grew.refl _) rfl trivial
  refine ⟨?_, ?_⟩
  · intro y w2 hG hD K hK
    simp only [depsH, List.getD_cons_zero, List.getD_cons_succ, Is, and_true] at hD
    have h0 := hD.1
    have h1 := hD.2.1
    have h2 := hD.2.2
    clear hD
    simp only [fillL, Act.put, List.setIfInBounds_toArray, List.set_cons_zero, List.set_cons_succ, List.getD_cons_zero, List.getD_cons_succ, Is] at hK ⊢
    simp only [h0, h2] at hK ⊢
    clear h0 h2
    refine ite_yes (by rfl) ?_
    go_simp
    refine (few27o_any t2 _ w2 (NodeAt.grew hG HA2.out)).mono ?_
    rintro r w3 ⟨v', rfl, ho, hg3⟩
    exact hK _ _ _ rfl hg3 ho.node (OwnV.made hG.size ho)
  refine ⟨?_, ?_⟩
  · intro y w2 hG hD K hK
    simp only [fillL, Act.put, List.setIfInBounds_toArray, List.set_cons_zero, List.set_cons_succ, List.getD_cons_zero, List.getD_cons_succ, Is] at hK ⊢
    refine ite_yes (by rfl) ?_
    go_simp
    obtain ⟨S, hS1, hS2⟩ := NewV.made w2
    exact hK _ _ _ rfl ((Grew.refl _).alloc _) ⟨S, hS1⟩ ⟨S, hS1, hS2⟩
  trivial
theorem denoteSays_own : ownKnob Try.prog.godebug = none := by kernel_rfl
theorem denoteSays_laidOut : laidOutB Try.prog = true := by kernel_rfl

set_option maxRecDepth 100000 in
theorem denoteSays_lifted (os : Os) (started : os.Started) (H : Type) (enc : TypeId × Value → H) :
    ReturnsInHanded {} Try.checked os 4 .any (Rows.denoteSaysSpec.pre6 enc Try.prog Try.f4 Rows.denoteSaysRow.domain false) (Rows.denoteSaysSpec.post enc Try.prog Try.f4 false true false false) := by
  refine returnsInHanded_of_change (C := Try.checked) denoteSays_own started (by kernel_rfl) Try.func4
    (ChangeSpec.witness6 (enc := enc) (C := Try.checked) false ⟨#[], #[.slice none 0 0, .agg #[.int .i64 0, .int .i64 0, .int .i64 0, .int .i64 0], .agg #[.int .i64 0, .int .i64 0, .int .u64 0, .string ⟨#[]⟩, .slice none 0 0, .slice none 0 0]], []⟩ 8 (by kernel_rfl) (by kernel_rfl) (by kernel_rfl) (by kernel_rfl)) ?_
  intro W base args ds gs before hval0 hW hcnd _
  have hval : ∀ (j : Nat) t v, Try.f4.params[j]? = some t → args[j]? = some v → Value.okWide Try.prog W .any base t v := hval0
  have hW' := hW
  obtain ⟨p, q, hA0, hV, rfl, hfz, hnd⟩ := hW
  have hA : DataW.TrodAll enc Try.prog W 0 (fun _ => true) true Try.f4.params.toList args.toList ds p := hA0
  rw [Try.params4] at hA hval
  obtain ⟨v0, vs0, d0, ds0, p0, q0, hargs, rfl, rfl, h0, r0⟩ := trodAll_cons hA
  obtain ⟨v1, vs1, d1, ds1, p1, q1, rfl, rfl, rfl, h1, r1⟩ := trodAll_cons r0
  obtain ⟨v2, vs2, d2, ds2, p2, q2, rfl, rfl, rfl, h2, r2⟩ := trodAll_cons r1
  obtain ⟨rfl, rfl, rfl⟩ := trodAll_nil r2
  obtain rfl : args = #[v0, v1, v2] := by cases args; simp_all
  obtain ⟨rfl, rfl⟩ := trodVars_none hV
  have lt0 : ∀ x ∈ p0, x.block < W.heap.size := by obtain ⟨m, hm⟩ := h0; exact DataW.trod_lt m _ _ _ hm
  have lt1 : ∀ x ∈ p1, x.block < W.heap.size := by obtain ⟨m, hm⟩ := h1; exact DataW.trod_lt m _ _ _ hm
  have lt2 : ∀ x ∈ p2, x.block < W.heap.size := by obtain ⟨m, hm⟩ := h2; exact DataW.trod_lt m _ _ _ hm
  have hw := denoteSays_row enc W base v0 d0 p0 (hval 0 22 v0 rfl rfl) h0 v1 d1 p1 (hval 1 35 v1 rfl rfl) h1 v2 d2 p2 (hval 2 27 v2 rfl rfl) h2
  clear hA0 hval0
  refine hw.mono fun e W' ⟨he, bel⟩ => ?_
  subst he
  exact ⟨_, rfl, _, _, _, [], _, [], hW', trodAll_mk1 (shut_bool Try.underlying4 _), (trodAll_cons_mk (Below.trod denoteSays_laidOut (by kernel_rfl) (of_decide_eq_true (by kernel_rfl)) h0 bel lt0) (trodAll_cons_mk (Below.trod denoteSays_laidOut (by kernel_rfl) (of_decide_eq_true (by kernel_rfl)) h1 bel lt1) (trodAll_cons_mk (Below.trod denoteSays_laidOut (by kernel_rfl) (of_decide_eq_true (by kernel_rfl)) h2 bel lt2) trodAll_mk0))), rfl, Below.frame bel _, fun h => by cases h⟩

/-- The statement. -/
theorem denoteSays_holds : Rows.DenoteSaysSaid :=
  OpenClaim.holds_of_wide 4 Try.f4 rfl rfl rfl rfl rfl rfl rfl ⟨rfl, rfl, rfl, rfl, rfl⟩ rfl rfl rfl rfl rfl (by kernel_rfl) Try.func4 (by kernel_rfl)
    (of_decide_eq_true (by kernel_rfl)) (by unfold Func.isWrapper; first | (rw [if_pos (by decide +kernel)]; kernel_rfl) | (rw [if_neg (by decide +kernel)]; exact ⟨rfl, rfl⟩))
    (fun os started H enc _ => denoteSays_lifted os started H enc)
end Go.Proofs.Ytlhliolknaopjaa
