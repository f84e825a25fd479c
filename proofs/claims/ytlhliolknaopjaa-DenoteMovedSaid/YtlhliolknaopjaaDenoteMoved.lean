/-
  'DenoteMoved': bytes ahead, a multiple of 8, change nothing. Conditions: none beyond the statement's own.
-/
import Derived.Test.YtlhliolknaopjaaRows
import Derived.Test.YtlhliolknaopjaaPI
import Derived.ProofKit
import Derived.OpenShut
import Derived.ShutString
import Derived.ChangeOld
import Derived.Below
import Derived.Lib.SmallJoins
import Derived.Deep.QuietTactic
import Derived.BigQuiet
import Derived.Deep.CutBlock
import Derived.Deep.DeepCutAuto
namespace Go.Proofs.Ytlhliolknaopjaa
open Go Go.ChangeShapes Go.WideShapes Go.ChangeAt Go.RowKit Go.Joins
open Go.ChangeMaps (open_string shut_string)
open Go.Deep
set_option linter.unusedVariables false
set_option linter.unusedSimpArgs false

set_option maxRecDepth 100000 in
set_option maxHeartbeats 8000000 in
theorem denoteMoved_row {H : Type} (enc : TypeId × Value → H) (W : World) (base : Nat) (v0 : Value) (d0 : DataW H) (p0 : List MemPlace) (o0 : Value.okWide Try.prog W .any base 22 v0) (k0 : DataW.Trod enc Try.prog W 0 (fun _ => true) true 22 v0 d0 p0) (v1 : Value) (d1 : DataW H) (p1 : List MemPlace) (o1 : Value.okWide Try.prog W .any base 27 v1) (k1 : DataW.Trod enc Try.prog W 0 (fun _ => true) true 27 v1 d1 p1) (v2 : Value) (d2 : DataW H) (p2 : List MemPlace) (o2 : Value.okWide Try.prog W .any base 22 v2) (k2 : DataW.Trod enc Try.prog W 0 (fun _ => true) true 22 v2 d2 p2) :
    Calls Try.prog 5 #[v0, v1, v2] W fun e w' => e = .returned (.bool true) ∧ Below W.heap.size W w' := by
  obtain ⟨d2, hb2, hl2⟩ := open_bytes o2 k2
  have HB2 := Lib.hid hb2
  have HB2W := HB2
  have HL2 := Lib.hid hl2
  obtain ⟨aa, ac, rfl⟩ : ∃ a c, v2 = .slice a d2.length c := by
    obtain ⟨a, c, e, _⟩ := hb2
    exact ⟨a, c, e⟩
  clear o2 k2 hb2 hl2
  obtain ⟨d0, hb0, hl0⟩ := open_bytes o0 k0
  have HB := Lib.hid hb0
  have HL0 := Lib.hid hl0
  obtain ⟨ba, bc, rfl⟩ : ∃ a c, v0 = .slice a d0.length c := by
    obtain ⟨a, c, e, _⟩ := hb0
    exact ⟨a, c, e⟩
  clear o0 k0 hb0 hl0
  obtain ⟨t1, hn1⟩ := open_node o1 k1
  have HA1 := Lib.hid hn1
  obtain ⟨tak, tan, tau, tas, taa4, tan4, tac4, taa5, tan5, tac5, rfl⟩ := hn1.node6
  clear o1 k1 hn1
  show Calls _ _ _ W fun e w' => e = .returned (.bool true) ∧ Grew W w'
  have HG := Lib.hid (Grew.refl W)
  go_enter Try.func5, Try.ntmps5
  go_upto_region 1 with fail
  obtain ⟨pa, hpa⟩ : ∃ N, W.heap.size = N := ⟨_, rfl⟩
  have hr1 := heap_alloc_new W (.cells #[.int .i64 tak, .int .i64 tan, .int .u64 tau, .string tas, .slice taa4 tan4 tac4, .slice taa5 tan5 tac5] 27)
  have hga := (Grew.refl W).alloc (.cells #[.int .i64 tak, .int .i64 tan, .int .u64 tau, .string tas, .slice taa4 tan4 tac4, .slice taa5 tan5 tac5] 27)
  have hz1 : (W.alloc (.cells #[.int .i64 tak, .int .i64 tan, .int .u64 tau, .string tas, .slice taa4 tan4 tac4, .slice taa5 tan5 tac5] 27)).heap.size = pa + 1 := by rw [World.size_alloc, hpa]
  generalize (W.alloc (.cells #[.int .i64 tak, .int .i64 tan, .int .u64 tau, .string tas, .slice taa4 tan4 tac4, .slice taa5 tan5 tac5] 27)) = x1 at *
  rw [hpa] at hr1
  try rw [hpa]
  have HRA := Lib.hid hr1
  clear hr1 hpa
  replace HB2 := Lib.hid (BytesAt.grew HB2.out hga)
  replace HB := Lib.hid (BytesAt.grew HB.out hga)
  replace HA1 := Lib.hid (NodeAt.grew hga HA1.out)
  replace HG := Lib.hid (HG.out.trans hga)
  clear hga
  clear hz1
  have c0 := row_cellT HRA.out 0 _ rfl
  have c1 := row_cellT HRA.out 1 _ rfl
  have c2 := row_cellT HRA.out 2 _ rfl
  have c3 := row_cellT HRA.out 3 _ rfl
  have c4 := row_cellT HRA.out 4 _ rfl
  have c5 := row_cellT HRA.out 5 _ rfl
  have HB20 : Hid (BytesAt W (.slice aa d2.length ac) d2) := HB2W.out
  refine wp_region_tablesS Grew 5 [[], [0], [], [0, 1, 2], [], [0, 1, 2, 3, 4], [0, 1, 2, 3, 4, 5]] [[(12, 2), (8, 4)], [(10, 0), (12, 2), (8, 4)], [(10, 0), (11, 1), (8, 4)], [(10, 0), (11, 1), (12, 2), (8, 4)], [(10, 0), (11, 1), (12, 2), (13, 3)], [(10, 0), (11, 1), (12, 2), (13, 3), (8, 4)], [(10, 0), (11, 1), (12, 2), (13, 3), (8, 4), (7, 5)]] [(10, 0), (11, 1), (12, 2), (13, 3), (8, 4)]
    [Is (.slice ba d0.length bc), fun v w => DocAt w v (cutB d0), Is (.agg #[.int .i64 tak, .int .i64 tan, .int .u64 tau, .string tas, .slice taa4 tan4 tac4, .slice taa5 tan5 tac5]), Nd (cutF t1), fun v w => ∃ S, NewV v S w]
    [none, some (OwnD x1.heap.size (cutB d0)), none, some (OwnV x1.heap.size (cutF t1)), some (NewV)]
    (by kernel_rfl) Grew.trans Grew.refl (Grew.refl _).drew (by kernel_rfl) ⟨is_st, fun _ _ _ hg h => DocAt.grew h hg, is_st, Nd.st _, fun _ _ _ hg ⟨S, h⟩ => ⟨S, NewV.st _ _ _ _ hg h⟩, trivial⟩ (fun _ _ h => Grew.size h) ⟨OwnD.st _ _, OwnV.st _ _, NewV.st, trivial⟩ rfl ?_ ?_
  rotate_left
  · intro y w2 hG hF hS
    simp only [factsH, Is, and_true, Nat.reduceAdd] at hF
    have h0 := hF.1
    have h1 := hF.2.1
    have h2 := hF.2.2.1
    have h3 := hF.2.2.2.1
    have h4 := hF.2.2.2.2
    clear hF
    simp only [fillL, Act.put, List.setIfInBounds_toArray, List.set_cons_zero, List.set_cons_succ, List.getD_cons_zero, List.getD_cons_succ, List.drop_succ_cons, List.drop_zero]
    simp only [h0, h2]
    clear h0 h2
    obtain ⟨σ, hS⟩ := hS
    have hs1 := hS.said 1 (by decide) _ rfl
    obtain ⟨xa1, xc1, e1, hxc1⟩ := h1.form
    rw [e1] at hs1
    have hs3 := hS.said 3 (by decide) _ rfl
    obtain ⟨fk, fn, fu, fs, fa4, fn4, fc4, fa5, fn5, fc5, e3⟩ := hs3.node6
    rw [e3] at hs3
    obtain ⟨g, e4, hσ4, hz4⟩ := hS.said 4 (by decide) _ rfl
    have hbg4 := (hS.bound 4 (by decide) g hσ4).1
    simp only [e1, e3, e4]
    refine wpList_over rfl _ rfl ?_
    simp only [Act.put, List.setIfInBounds_toArray, List.set_cons_zero, List.set_cons_succ]
    have HGG := Lib.hid (HG.out.trans hG)
    refine wpList_store6 rfl _ _ rfl rfl g fk fn fu fs fa4 fn4 fc4 fa5 fn5 fc5 rfl rfl _ _ _ _ _ _ hz4 ?_
    intro v1 hm HRr
    replace hs1 : OwnD _ _ _ (σ 1) v1 := ⟨Moved.owns hm hs1.1 (fun g' hg' e => hS.apart 1 4 (by decide) (by decide) (by decide) g' (hs1.2 g' hg') (by rw [e]; exact hσ4)), hs1.2⟩
    replace hs3 : OwnT v1 _ _ _ (σ 3) := OwnT.kept hm hs3 (fun g' hg' e => hS.apart 3 4 (by decide) (by decide) (by decide) g' hg' (by rw [e]; exact hσ4))
    replace HGG := Lib.hid (Moved.fresh HGG.out hm (fun g' e => by have h1 := HG.out.size; have h2 := hbg4; have h3 : g' = g := e; omega))
    clear hm
    have HD := Lib.hid (doc_own hs1.1 (cutB_len _))
    have HT : Hid (NodeAt v1 (cutF t1) (.agg #[.int .i64 fk, .int .i64 fn, .int .u64 fu, .string fs, .slice fa4 fn4 fc4, .slice fa5 fn5 fc5])) := hs3.node
    have HR := Lib.hid HRr
    replace HG := HGG
    clear HGG hG hS hs1 h1 e1 hxc1 hs3 h3 e3 hz4 hσ4 hbg4 e4 HRr
    replace HB2 : Hid (BytesAt v1 (.slice aa d2.length ac) d2) := HB20.out.grew HG.out
    clear c0 c1 c2 c3 c4 c5 HRA HB HA1 HL0
    have HOK := Lib.hid (cutF_ok t1)
    have HDL : Hid ((cutB d0).length ≤ 2000) := by show _ ≤ _; unfold cutB; rw [List.length_take]; omega
    generalize cutF t1 = c at *
    generalize cutB d0 = d at *
    have r0 := row_cellT HR.out 0 _ rfl
    have r1 := row_cellT HR.out 1 _ rfl
    have r2 := row_cellT HR.out 2 _ rfl
    have r3 := row_cellT HR.out 3 _ rfl
    have r4 := row_cellT HR.out 4 _ rfl
    have r5 := row_cellT HR.out 5 _ rfl
    go_wp2_with fail
    refine (Holds_any d _ c HOK.out _ _ HD.out HT.out).mono ?_
    rintro r v3 ⟨rfl, hgc⟩
    replace HD := Lib.hid (DocAt.grew HD.out hgc)
    replace HT := Lib.hid (NodeAt.grew hgc HT.out)
    replace HR := Lib.hid (hgc.heap HR.out)
    replace HB2 := Lib.hid (BytesAt.grew HB2.out hgc)
    replace HG := Lib.hid (HG.out.trans hgc)
    clear hgc
    clear r0 r1 r2 r3 r4 r5
    cases hh : holdsF d c
    · clear hh
      go_wp2_with fail
      refine (works27_any _).mono ?_
      rintro r uw ⟨rfl, hgc⟩
      replace HD := Lib.hid (DocAt.grew HD.out hgc)
      replace HT := Lib.hid (NodeAt.grew hgc HT.out)
      replace HR := Lib.hid (hgc.heap HR.out)
      replace HB2 := Lib.hid (BytesAt.grew HB2.out hgc)
      replace HG := Lib.hid (HG.out.trans hgc)
      clear hgc
      go_wp2_with fail
      go_ret
      exact ⟨rfl, HG.out⟩
    obtain ⟨mm, hmm⟩ : ∃ m : Nat, m = min d2.length 200 := ⟨_, rfl⟩
    obtain ⟨qq, hqq⟩ : ∃ q : Nat, q = mm / 8 := ⟨_, rfl⟩
    obtain ⟨n8, hn8⟩ : ∃ n : Nat, n = qq * 8 := ⟨_, rfl⟩
    have hmi : min (d2.length : Int) 200 = (mm : Int) := by omega
    have htd : Int.tdiv (mm : Int) 8 = (qq : Int) := by rw [Int.tdiv_eq_ediv_of_nonneg (by omega)]; omega
    have hw1 : IntKind.i64.wrap (qq : Int) = (qq : Int) := by rw [IntKind.wrap_i64]; omega
    have hw2 : IntKind.i64.wrap ((qq : Int) * 8) = (n8 : Int) := by rw [IntKind.wrap_i64]; omega
    have hn1 : n8 ≤ d2.length ∧ n8 ≤ 200 := by omega
    have hac : d2.length ≤ ac := by
      obtain ⟨a, c, e, h, _⟩ := HB2.out
      cases e
      exact h
    have hnc : (n8 : Int) ≤ ac := by omega
    have HTK := Lib.hid (HB2.out.take n8 hn1.1)
    have HAH : Hid (holdsF (d2.take n8 ++ d) c = true) := holds_moved _ (by rw [List.length_take]; omega) hh
    have HLN : Hid ((d2.take n8).length = n8 ∧ (d2.take n8).length ≤ 200 ∧ (d2.take n8 ++ d).length ≤ 1048576) := by
      have h1 : (d2.take n8).length = n8 := by rw [List.length_take]; omega
      refine ⟨h1, by omega, ?_⟩
      rw [List.length_append]; have := HDL.out; omega
    clear hh hmm hqq hn8
    obtain ⟨A, hA⟩ : ∃ A, d2.take n8 = A := ⟨_, rfl⟩
    rw [hA] at HTK HAH HLN
    clear hA
    have r0 := row_cellT HR.out 0 _ rfl
    have r1 := row_cellT HR.out 1 _ rfl
    have r2 := row_cellT HR.out 2 _ rfl
    have r3 := row_cellT HR.out 3 _ rfl
    have r4 := row_cellT HR.out 4 _ rfl
    have r5 := row_cellT HR.out 5 _ rfl
    skip
    go_upto_region 5 with fail
    have HDREW : Hid (Below v3.heap.size v3 v3.drew) := (Grew.refl _).drew
    refine wp_region_tablesD (Below v3.heap.size) 0 (fun _ => True) (stepU v3.heap.size n8 5) [[], [], [0, 1], [0, 1, 2], [], [0, 1, 2, 3, 4], [], [0, 1, 2, 3, 4, 5, 6], [0, 1, 2, 3, 4, 5, 6, 7], [0, 1, 2, 3, 4, 5, 6, 7, 8], [0, 1, 2, 3, 4, 5, 6, 7, 8, 9], [0, 1, 2, 3, 4, 5, 6, 7, 8, 9, 10]] [[(25, 1), (28, 4), (30, 6)], [(24, 0), (28, 4), (30, 6)], [(24, 0), (25, 1), (28, 4), (30, 6)], [(24, 0), (25, 1), (26, 2), (28, 4), (30, 6)], [(24, 0), (25, 1), (26, 2), (27, 3), (30, 6)], [(24, 0), (25, 1), (26, 2), (27, 3), (28, 4), (30, 6)], [(24, 0), (25, 1), (26, 2), (27, 3), (28, 4), (29, 5)], [(24, 0), (25, 1), (26, 2), (27, 3), (28, 4), (29, 5), (30, 6)], [(24, 0), (25, 1), (26, 2), (27, 3), (28, 4), (29, 5), (30, 6), (31, 7)], [(24, 0), (25, 1), (26, 2), (27, 3), (28, 4), (29, 5), (30, 6), (31, 7), (32, 8)], [(24, 0), (25, 1), (26, 2), (27, 3), (28, 4), (29, 5), (30, 6), (31, 7), (32, 8), (33, 9)], [(24, 0), (25, 1), (26, 2), (27, 3), (28, 4), (29, 5), (30, 6), (31, 7), (32, 8), (33, 9), (34, 10)]] [(24, 0), (25, 1), (26, 2), (27, 3), (28, 4), (29, 5), (30, 6), (31, 7), (32, 8), (33, 9), (34, 10), (6, 11)]
      [fun y v w => v = .slice aa d2.length ac, fun y v w => v = .int .i64 (n8 : Int), fun y v w => v = .slice aa n8 ac, fun y v w => OwnU w v3.heap.size v A, fun y v w => v = .slice xa1 d.length xc1, fun y v w => OwnU w v3.heap.size v (A ++ d), fun y v w => v = .agg #[.int .i64 fk, .int .i64 fn, .int .u64 fu, .string fs, .slice fa4 fn4 fc4, .slice fa5 fn5 fc5], fun y v w => v = .bool true, fun y v w => v = .bool true, fun y v w => v = .bool true, fun y v w => v = .bool true, fun y v w => v = .bool true]
      (by kernel_rfl) (fun h k => Below.trans h k) (Below.refl _) stepU.below stepU.refl (fun _ _ _ _ _ h => h) trivial HDREW.out (by kernel_rfl)
      ⟨fun i hi hnd y v w w' ht h => h, fun i hi hnd y v w w' ht h => h, fun i hi hnd y v w w' ht h => h, fun i hi hnd y v w w' ht h => h.step ht (fun _ => Nat.le_of_eq HLN.out.1), fun i hi hnd y v w w' ht h => h, fun i hi hnd y v w w' ht h => h.step ht (fun e => absurd e hi), fun i hi hnd y v w w' ht h => h, fun i hi hnd y v w w' ht h => h, fun i hi hnd y v w w' ht h => h, fun i hi hnd y v w w' ht h => h, fun i hi hnd y v w w' ht h => h, fun i hi hnd y v w w' ht h => h, trivial⟩
      ⟨fun _ _ _ _ _ h => h, fun _ _ _ _ _ h => h, fun _ _ _ _ _ h => h, fun _ _ _ _ _ h => h, fun _ _ _ _ _ h => h, fun _ _ _ _ _ h => h, fun _ _ _ _ _ h => h, fun _ _ _ _ _ h => h, fun _ _ _ _ _ h => h, fun _ _ _ _ _ h => h, fun _ _ _ _ _ h => h, fun _ _ _ _ _ h => h, trivial⟩
      ⟨?_, ?_, ?_, ?_, ?_, ?_, ?_, ?_, ?_, ?_, ?_, ?_, trivial⟩ rfl ?_
    · intro y w2 hG hI hD K hK
      clear hI
      have hBs : v3.heap.size ≤ w2.heap.size := hG.size
      simp only [fillL, Act.put, List.setIfInBounds_toArray, List.set_cons_zero, List.set_cons_succ, List.getD_cons_zero, List.getD_cons_succ] at hK ⊢
      refine ite_yes (by rfl) ?_
      go_simp
      exact hK _ _ _ rfl (stepU.refl _ _) rfl
    · intro y w2 hG hI hD K hK
      clear hI
      have hBs : v3.heap.size ≤ w2.heap.size := hG.size
      simp only [fillL, Act.put, List.setIfInBounds_toArray, List.set_cons_zero, List.set_cons_succ, List.getD_cons_zero, List.getD_cons_succ] at hK ⊢
      refine ite_yes (by rfl) ?_
      go_simp
      exact hK _ _ _ rfl (stepU.refl _ _) rfl
    · intro y w2 hG hI hD K hK
      clear hI
      have hBs : v3.heap.size ≤ w2.heap.size := hG.size
      simp only [depsT, List.getD_cons_zero, List.getD_cons_succ, and_true] at hD
      have h0 := hD.1
      have h1 := hD.2
      clear hD
      simp only [fillL, Act.put, List.setIfInBounds_toArray, List.set_cons_zero, List.set_cons_succ, List.getD_cons_zero, List.getD_cons_succ] at hK ⊢
      simp only [h0, h1] at hK ⊢
      clear h0 h1
      refine ite_yes (by rfl) ?_
      go_simp
      exact hK _ _ _ rfl (stepU.refl _ _) rfl
    · intro y w2 hG hI hD K hK
      clear hI
      have hBs : v3.heap.size ≤ w2.heap.size := hG.size
      simp only [depsT, List.getD_cons_zero, List.getD_cons_succ, and_true] at hD
      have h0 := hD.1
      have h1 := hD.2.1
      have h2 := hD.2.2
      clear hD
      simp only [fillL, Act.put, List.setIfInBounds_toArray, List.set_cons_zero, List.set_cons_succ, List.getD_cons_zero, List.getD_cons_succ] at hK ⊢
      simp only [h0, h1, h2] at hK ⊢
      clear h0 h1 h2
      refine ite_yes (by rfl) ?_
      go_simp
      refine (copy_any _ _ A (BytesAt.grew HTK.out hG) (by have := HLN.out.2.1; omega)).mono ?_
      rintro r w3 ⟨v', rfl, ho, hg3⟩
      exact hK _ _ _ rfl (stepU.grew hBs hg3) (rows_base ho hBs)
    · intro y w2 hG hI hD K hK
      clear hI
      have hBs : v3.heap.size ≤ w2.heap.size := hG.size
      simp only [fillL, Act.put, List.setIfInBounds_toArray, List.set_cons_zero, List.set_cons_succ, List.getD_cons_zero, List.getD_cons_succ] at hK ⊢
      refine ite_yes (by rfl) ?_
      go_simp
      exact hK _ _ _ rfl (stepU.refl _ _) rfl
    · intro y w2 hG hI hD K hK
      clear hI
      have hBs : v3.heap.size ≤ w2.heap.size := hG.size
      simp only [depsT, List.getD_cons_zero, List.getD_cons_succ, and_true] at hD
      have h0 := hD.1
      have h1 := hD.2.1
      have h2 := hD.2.2.1
      have h3 := hD.2.2.2.1
      have h4 := hD.2.2.2.2
      clear hD
      simp only [fillL, Act.put, List.setIfInBounds_toArray, List.set_cons_zero, List.set_cons_succ, List.getD_cons_zero, List.getD_cons_succ] at hK ⊢
      simp only [h0, h1, h2, h4] at hK ⊢
      clear h0 h1 h2 h4
      refine ite_yes (by rfl) ?_
      refine wp_append_keepU _ _ rfl (v3.heap.size) (y 3) A rfl h3 (.slice xa1 d.length xc1) d rfl (DocAt.grew HD.out hG).1 (by have := HLN.out; have := HDL.out; omega) hBs ?_
      intro v' w' ho hk
      exact hK _ _ _ rfl ⟨hk.1, .inl ⟨rfl, KeepU.mono hk (Nat.le_of_eq HLN.out.1.symm)⟩⟩ ho
    · intro y w2 hG hI hD K hK
      clear hI
      have hBs : v3.heap.size ≤ w2.heap.size := hG.size
      have dr0 := Grew.cell hG r0
      have dr1 := Grew.cell hG r1
      have dr2 := Grew.cell hG r2
      have dr3 := Grew.cell hG r3
      have dr4 := Grew.cell hG r4
      have dr5 := Grew.cell hG r5
      simp only [fillL, Act.put, List.setIfInBounds_toArray, List.set_cons_zero, List.set_cons_succ, List.getD_cons_zero, List.getD_cons_succ] at hK ⊢
      refine ite_yes (by rfl) ?_
      go_simp
      exact hK _ _ _ rfl (stepU.refl _ _) rfl
    · intro y w2 hG hI hD K hK
      clear hI
      have hBs : v3.heap.size ≤ w2.heap.size := hG.size
      simp only [depsT, List.getD_cons_zero, List.getD_cons_succ, and_true] at hD
      have h0 := hD.1
      have h1 := hD.2.1
      have h2 := hD.2.2.1
      have h3 := hD.2.2.2.1
      have h4 := hD.2.2.2.2.1
      have h5 := hD.2.2.2.2.2.1
      have h6 := hD.2.2.2.2.2.2
      clear hD
      simp only [fillL, Act.put, List.setIfInBounds_toArray, List.set_cons_zero, List.set_cons_succ, List.getD_cons_zero, List.getD_cons_succ] at hK ⊢
      simp only [h0, h1, h2, h4, h6] at hK ⊢
      clear h0 h1 h2 h4 h6
      refine ite_yes (by rfl) ?_
      go_simp
      refine (Holds_any (A ++ d) _ c HOK.out _ w2 (doc_own h5 HLN.out.2.2) (NodeAt.grew hG HT.out)).mono ?_
      rintro r w3 ⟨rfl, hg3⟩
      exact hK _ _ _ rfl (stepU.grew hBs hg3) (congrArg Value.bool HAH.out)
    · intro y w2 hG hI hD K hK
      clear hI
      have hBs : v3.heap.size ≤ w2.heap.size := hG.size
      simp only [depsT, List.getD_cons_zero, List.getD_cons_succ, and_true] at hD
      have h0 := hD.1
      have h1 := hD.2.1
      have h2 := hD.2.2.1
      have h3 := hD.2.2.2.1
      have h4 := hD.2.2.2.2.1
      have h5 := hD.2.2.2.2.2.1
      have h6 := hD.2.2.2.2.2.2.1
      have h7 := hD.2.2.2.2.2.2.2
      clear hD
      simp only [fillL, Act.put, List.setIfInBounds_toArray, List.set_cons_zero, List.set_cons_succ, List.getD_cons_zero, List.getD_cons_succ] at hK ⊢
      simp only [h0, h1, h2, h4, h6, h7] at hK ⊢
      clear h0 h1 h2 h4 h6 h7
      refine ite_yes (by rfl) ?_
      go_simp
      exact hK _ _ _ rfl (stepU.refl _ _) rfl
    · intro y w2 hG hI hD K hK
      clear hI
      have hBs : v3.heap.size ≤ w2.heap.size := hG.size
      simp only [depsT, List.getD_cons_zero, List.getD_cons_succ, and_true] at hD
      have h0 := hD.1
      have h1 := hD.2.1
      have h2 := hD.2.2.1
      have h3 := hD.2.2.2.1
      have h4 := hD.2.2.2.2.1
      have h5 := hD.2.2.2.2.2.1
      have h6 := hD.2.2.2.2.2.2.1
      have h7 := hD.2.2.2.2.2.2.2.1
      have h8 := hD.2.2.2.2.2.2.2.2
      clear hD
      simp only [fillL, Act.put, List.setIfInBounds_toArray, List.set_cons_zero, List.set_cons_succ, List.getD_cons_zero, List.getD_cons_succ] at hK ⊢
      simp only [h0, h1, h2, h4, h6, h7, h8] at hK ⊢
      clear h0 h1 h2 h4 h6 h7 h8
      refine ite_yes (by rfl) ?_
      go_simp
      refine (works27_any w2).mono ?_
      rintro r w3 ⟨rfl, hg3⟩
      exact hK _ _ _ rfl (stepU.grew hBs hg3) rfl
    · intro y w2 hG hI hD K hK
      clear hI
      have hBs : v3.heap.size ≤ w2.heap.size := hG.size
      simp only [depsT, List.getD_cons_zero, List.getD_cons_succ, and_true] at hD
      have h0 := hD.1
      have h1 := hD.2.1
      have h2 := hD.2.2.1
      have h3 := hD.2.2.2.1
      have h4 := hD.2.2.2.2.1
      have h5 := hD.2.2.2.2.2.1
      have h6 := hD.2.2.2.2.2.2.1
      have h7 := hD.2.2.2.2.2.2.2.1
      have h8 := hD.2.2.2.2.2.2.2.2.1
      have h9 := hD.2.2.2.2.2.2.2.2.2
      clear hD
      simp only [fillL, Act.put, List.setIfInBounds_toArray, List.set_cons_zero, List.set_cons_succ, List.getD_cons_zero, List.getD_cons_succ] at hK ⊢
      simp only [h0, h1, h2, h4, h6, h7, h8, h9] at hK ⊢
      clear h0 h1 h2 h4 h6 h7 h8 h9
      refine ite_yes (by rfl) ?_
      go_simp
      exact hK _ _ _ rfl (stepU.refl _ _) rfl
    · intro y w2 hG hI hD K hK
      clear hI
      have hBs : v3.heap.size ≤ w2.heap.size := hG.size
      simp only [depsT, List.getD_cons_zero, List.getD_cons_succ, and_true] at hD
      have h0 := hD.1
      have h1 := hD.2.1
      have h2 := hD.2.2.1
      have h3 := hD.2.2.2.1
      have h4 := hD.2.2.2.2.1
      have h5 := hD.2.2.2.2.2.1
      have h6 := hD.2.2.2.2.2.2.1
      have h7 := hD.2.2.2.2.2.2.2.1
      have h8 := hD.2.2.2.2.2.2.2.2.1
      have h9 := hD.2.2.2.2.2.2.2.2.2.1
      have h10 := hD.2.2.2.2.2.2.2.2.2.2
      clear hD
      simp only [fillL, Act.put, List.setIfInBounds_toArray, List.set_cons_zero, List.set_cons_succ, List.getD_cons_zero, List.getD_cons_succ] at hK ⊢
      simp only [h0, h1, h2, h4, h6, h7, h8, h9, h10] at hK ⊢
      clear h0 h1 h2 h4 h6 h7 h8 h9 h10
      refine ite_yes (by rfl) ?_
      go_simp
      exact hK _ _ _ rfl (stepU.refl _ _) rfl
    · intro y w2 hG hF
      simp only [factsT, and_true, Nat.reduceAdd] at hF
      have h0 := hF.1
      have h1 := hF.2.1
      have h2 := hF.2.2.1
      have h3 := hF.2.2.2.1
      have h4 := hF.2.2.2.2.1
      have h5 := hF.2.2.2.2.2.1
      have h6 := hF.2.2.2.2.2.2.1
      have h7 := hF.2.2.2.2.2.2.2.1
      have h8 := hF.2.2.2.2.2.2.2.2.1
      have h9 := hF.2.2.2.2.2.2.2.2.2.1
      have h10 := hF.2.2.2.2.2.2.2.2.2.2.1
      have h11 := hF.2.2.2.2.2.2.2.2.2.2.2
      clear hF
      simp only [fillL, Act.put, List.setIfInBounds_toArray, List.set_cons_zero, List.set_cons_succ, List.getD_cons_zero, List.getD_cons_succ]
      simp only [h0, h1, h2, h4, h6, h7, h8, h9, h10, h11]
      clear h0 h1 h2 h4 h6 h7 h8 h9 h10 h11
      have HGF := Lib.hid (HG.out.trans hG)
      clear hG h3 h5
      go_wp2_with fail
      go_ret
      exact ⟨rfl, HGF.out⟩
  refine ⟨?_, ?_⟩
  · intro y w2 hG hD K hK
    simp only [fillL, Act.put, List.setIfInBounds_toArray, List.set_cons_zero, List.set_cons_succ, List.getD_cons_zero, List.getD_cons_succ, Is] at hK ⊢
    refine ite_yes (by rfl) ?_
    go_simp
    exact hK _ _ _ rfl (Grew.refl _) rfl trivial
  refine ⟨?_, ?_⟩
  · intro y w2 hG hD K hK
    simp only [depsH, List.getD_cons_zero, List.getD_cons_succ, Is, and_true] at hD
    have h0 := hD
    clear hD
    simp only [fillL, Act.put, List.setIfInBounds_toArray, List.set_cons_zero, List.set_cons_succ, List.getD_cons_zero, List.getD_cons_succ, Is] at hK ⊢
    simp only [h0] at hK ⊢
    clear h0
    refine ite_yes (by rfl) ?_
    go_simp
    refine (bytes27_any d0 _ w2 (HB.out.grew hG) HL0.out).mono ?_
    rintro r w3 ⟨v', rfl, ho, hg3⟩
    exact hK _ _ _ rfl hg3 (doc_own ho (cutB_len _)) (OwnD.made hG.size ho)
  refine ⟨?_, ?_⟩
  · intro y w2 hG hD K hK
    have dc0 := hG.cell c0
    have dc1 := hG.cell c1
    have dc2 := hG.cell c2
    have dc3 := hG.cell c3
    have dc4 := hG.cell c4
    have dc5 := hG.cell c5
    simp only [fillL, Act.put, List.setIfInBounds_toArray, List.set_cons_zero, List.set_cons_succ, List.getD_cons_zero, List.getD_cons_succ, Is] at hK ⊢
    refine ite_yes (by rfl) ?_
    go_simp
    exact hK _ _ _ rfl (Grew.refl _) rfl trivial
  refine ⟨?_, ?_⟩
  · intro y w2 hG hD K hK
    simp only [depsH, List.getD_cons_zero, List.getD_cons_succ, Is, and_true] at hD
    have h0 := hD.1
    have h1 := hD.2.1
    have h2 := hD.2.2
    clear hD
    simp only [fillL, Act.put, List.setIfInBounds_toArray, List.set_cons_zero, List.set_cons_succ, List.getD_cons_zero, List.getD_cons_succ, Is] at hK ⊢
    simp only [h0, h2] at hK ⊢
    clear h0 h2
    refine ite_yes (by rfl) ?_
    go_simp
    refine (few27o_any t1 _ w2 (NodeAt.grew hG HA1.out)).mono ?_
    rintro r w3 ⟨v', rfl, ho, hg3⟩
    exact hK _ _ _ rfl hg3 ho.node (OwnV.made hG.size ho)
  refine ⟨?_, ?_⟩
  · intro y w2 hG hD K hK
    simp only [fillL, Act.put, List.setIfInBounds_toArray, List.set_cons_zero, List.set_cons_succ, List.getD_cons_zero, List.getD_cons_succ, Is] at hK ⊢
    refine ite_yes (by rfl) ?_
    go_simp
    obtain ⟨S, hS1, hS2⟩ := NewV.made w2
    exact hK _ _ _ rfl ((Grew.refl _).alloc _) ⟨S, hS1⟩ ⟨S, hS1, hS2⟩
  trivial
theorem denoteMoved_own : ownKnob Try.prog.godebug = none := by kernel_rfl
theorem denoteMoved_laidOut : laidOutB Try.prog = true := by kernel_rfl

set_option maxRecDepth 100000 in
theorem denoteMoved_lifted (os : Os) (started : os.Started) (H : Type) (enc : TypeId × Value → H) :
    ReturnsInHanded {} Try.checked os 5 .any (Rows.denoteMovedSpec.pre6 enc Try.prog Try.f5 Rows.denoteMovedRow.domain false) (Rows.denoteMovedSpec.post enc Try.prog Try.f5 false true false false) := by
  refine returnsInHanded_of_change (C := Try.checked) denoteMoved_own started (by kernel_rfl) Try.func5
    (ChangeSpec.witness6 (enc := enc) (C := Try.checked) false ⟨#[], #[.slice none 0 0, .agg #[.int .i64 0, .int .i64 0, .int .u64 0, .string ⟨#[]⟩, .slice none 0 0, .slice none 0 0], .slice none 0 0], []⟩ 8 (by kernel_rfl) (by kernel_rfl) (by kernel_rfl) (by kernel_rfl)) ?_
  intro W base args ds gs before hval0 hW hcnd _
  have hval : ∀ (j : Nat) t v, Try.f5.params[j]? = some t → args[j]? = some v → Value.okWide Try.prog W .any base t v := hval0
  have hW' := hW
  obtain ⟨p, q, hA0, hV, rfl, hfz, hnd⟩ := hW
  have hA : DataW.TrodAll enc Try.prog W 0 (fun _ => true) true Try.f5.params.toList args.toList ds p := hA0
  rw [Try.params5] at hA hval
  obtain ⟨v0, vs0, d0, ds0, p0, q0, hargs, rfl, rfl, h0, r0⟩ := trodAll_cons hA
  obtain ⟨v1, vs1, d1, ds1, p1, q1, rfl, rfl, rfl, h1, r1⟩ := trodAll_cons r0
  obtain ⟨v2, vs2, d2, ds2, p2, q2, rfl, rfl, rfl, h2, r2⟩ := trodAll_cons r1
  obtain ⟨rfl, rfl, rfl⟩ := trodAll_nil r2
  obtain rfl : args = #[v0, v1, v2] := by cases args; simp_all
  obtain ⟨rfl, rfl⟩ := trodVars_none hV
  have lt0 : ∀ x ∈ p0, x.block < W.heap.size := by obtain ⟨m, hm⟩ := h0; exact DataW.trod_lt m _ _ _ hm
  have lt1 : ∀ x ∈ p1, x.block < W.heap.size := by obtain ⟨m, hm⟩ := h1; exact DataW.trod_lt m _ _ _ hm
  have lt2 : ∀ x ∈ p2, x.block < W.heap.size := by obtain ⟨m, hm⟩ := h2; exact DataW.trod_lt m _ _ _ hm
  have hw := denoteMoved_row enc W base v0 d0 p0 (hval 0 22 v0 rfl rfl) h0 v1 d1 p1 (hval 1 27 v1 rfl rfl) h1 v2 d2 p2 (hval 2 22 v2 rfl rfl) h2
  clear hA0 hval0
  refine hw.mono fun e W' ⟨he, bel⟩ => ?_
  subst he
  exact ⟨_, rfl, _, _, _, [], _, [], hW', trodAll_mk1 (shut_bool Try.underlying4 _), (trodAll_cons_mk (Below.trod denoteMoved_laidOut (by kernel_rfl) (of_decide_eq_true (by kernel_rfl)) h0 bel lt0) (trodAll_cons_mk (Below.trod denoteMoved_laidOut (by kernel_rfl) (of_decide_eq_true (by kernel_rfl)) h1 bel lt1) (trodAll_cons_mk (Below.trod denoteMoved_laidOut (by kernel_rfl) (of_decide_eq_true (by kernel_rfl)) h2 bel lt2) trodAll_mk0))), rfl, Below.frame bel _, fun h => by cases h⟩

/-- The statement. -/
theorem denoteMoved_holds : Rows.DenoteMovedSaid :=
  OpenClaim.holds_of_wide 5 Try.f5 rfl rfl rfl rfl rfl rfl rfl ⟨rfl, rfl, rfl, rfl, rfl⟩ rfl rfl rfl rfl rfl (by kernel_rfl) Try.func5 (by kernel_rfl)
    (of_decide_eq_true (by kernel_rfl)) (by unfold Func.isWrapper; first | (rw [if_pos (by decide +kernel)]; kernel_rfl) | (rw [if_neg (by decide +kernel)]; exact ⟨rfl, rfl⟩))
    (fun os started H enc _ => denoteMoved_lifted os started H enc)
end Go.Proofs.Ytlhliolknaopjaa
