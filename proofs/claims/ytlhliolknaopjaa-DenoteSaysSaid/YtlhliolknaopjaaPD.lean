/-
  Texts of the proof, part 4 of 9.
-/
import Derived.Test.YtlhliolknaopjaaPC
import Derived.Test.YtlhliolknaopjaaPB
import Derived.RangeFuncNested
import Derived.RangeFuncBound
import Derived.RangeFuncCalls
import Derived.RangeFuncLeaves
import Derived.Shelf.Abstract
import Derived.Shelf.RegionOpen
import Derived.OwnWalkIn
import Derived.TacticsInMore
import Derived.LoopNIn
import Derived.LoopIn
import Derived.Test.YtlhliolknaopjaaPA
import Derived.StillTailTactics
import Derived.Deep.DeepCutAuto
import Derived.Deep.CutBlock

/-
  Denote: says, list given. Conditions: the bytes, the tree lie in memory; the tree is small.
-/
namespace Go.Proofs.Ytlhliolknaopjaa
open Go Go.ChangeShapes Go.WideShapes Go.ChangeAt Go.RowKit Go.Joins Go.Deep
set_option linter.unusedVariables false
set_option linter.unusedSimpArgs false

theorem eqfn_nil (w : World) : (Op.equal 67 .nilFunc .nilFunc).run Try.prog w = .ok true w := by
  have h := Try.underlying67
  unfold Op.equal
  rw [show Op.maxDepth = 9999 + 1 from rfl]
  unfold Op.equalIn
  simp only [Sem.run_bind, run_underlying h, Result.andThen]
  rfl
theorem eqfn_fn (f : Nat) (w : World) : (Op.equal 67 (.func (.func f) #[] #[]) .nilFunc).run Try.prog w = .ok false w := by
  have h := Try.underlying67
  unfold Op.equal
  rw [show Op.maxDepth = 9999 + 1 from rfl]
  unfold Op.equalIn
  simp only [Sem.run_bind, run_underlying h, Result.andThen]
  rfl
theorem eql_nil (w : World) : (binOp .eql 67 .nilFunc .nilFunc).run Try.prog w = .ok (.bool true) w := by
  have h := eqfn_nil w
  simp only [binOp, Sem.run_bind, h, Result.andThen_ok, Sem.run_pure]
theorem eql_fn (f : Nat) (w : World) : (binOp .eql 67 (.func (.func f) #[] #[]) .nilFunc).run Try.prog w = .ok (.bool false) w := by
  have h := eqfn_fn f w
  simp only [binOp, Sem.run_bind, h, Result.andThen_ok, Sem.run_pure]
/-- list at a tree, a type, in whatever world. -/
def ListOn (d : List UInt8) (typ : Int) (t : Tr) : Prop := ∀ (dv : Value) (pos par wid at_ : Int) (tv : Value) (w : World), DocAt w dv d → NodeAt w t tv → 0 ≤ at_ ∧ at_ ≤ 1048576 → isW wid = true →
    Calls Try.prog 47 #[dv, .agg #[.int .i64 pos, .int .i64 par, .int .i64 typ, .int .i64 wid], .int .i64 at_, tv] w fun r w' => r = .returned (.bool (listF d typ wid at_ t)) ∧ Grew w w'
theorem num_bound (d : List UInt8) (at_ x : Int) (hd : d.length ≤ 1048576) (h : (numF d at_ x).2 = true) : 0 ≤ at_ ∧ at_ ≤ 1048576 ∧ 0 ≤ (numF d at_ x).1 := by
  unfold numF at h ⊢
  simp only [Bool.and_eq_true, decide_eq_true_eq] at h
  have hp := loadF_pos d at_ x
  refine ⟨?_, ?_, by simp only; omega⟩
  all_goals
    have h2 := h.1
    unfold loadF at h2
    split at h2
    · rename_i hx
      split at h2
      · cases h2
      · rcases isW_cases hx with rfl | rfl | rfl | rfl <;> omega
    · cases h2
theorem zero_look (w : World) : (zeroValue 67).run Try.prog w = .ok .nilFunc w := by
  have h : (Try.prog.info? 67).map (fun i => i.zero) = some (some .nilFunc) := by kernel_rfl
  cases hi : Try.prog.info? 67 with
  | none => rw [hi] at h; cases h
  | some i => rw [hi] at h; simp at h; simp [zeroValue, typeInfo, hi, h, Result.andThen]
set_option maxRecDepth 100000 in
set_option maxHeartbeats 4000000 in
theorem says_any (d : List UInt8) (typ : Int) (t : Tr) (hl : nearT typ = false → farT typ = false → ListOn d typ t) (hs : t.fs.size ≤ 1000) (dv : Value) (pos par wid lim : Int) (tv : Value) (w : World) (hD : DocAt w dv d) (hn : NodeAt w t tv) (hp : i64ok pos) : Calls Try.prog 33 #[dv, .agg #[.int .i64 pos, .int .i64 par, .int .i64 typ, .int .i64 wid], .int .i64 lim, tv] w fun r w' => r = .returned (.bool (saysF d typ pos par wid lim t)) ∧ Grew w w' := by
  have HD := Lib.hid hD
  have HT := Lib.hid hn
  obtain ⟨da, dc, rfl, _⟩ := hD.form
  obtain ⟨tk, tn, tu, ts, ta4, tn4, tc4, ta5, tn5, tc5, rfl⟩ := hn.node6
  have HDL : Hid (d.length ≤ 1048576) := hD.2.1
  clear hD hn
  have HG := Lib.hid (Grew.refl w)
  obtain ⟨res, hres⟩ : ∃ b, saysF d typ pos par wid lim t = b := ⟨_, rfl⟩
  rw [hres]
  have HRES := Lib.hid hres
  clear hres
  rw [says_eq] at HRES
  go_enter Try.func33, Try.ntmps33
  go_upto_region 1 with fail
  obtain ⟨pr, hpr⟩ : ∃ N, w.heap.size = N := ⟨_, rfl⟩
  have hr1 := heap_alloc_new w (.cells #[.int .i64 pos, .int .i64 par, .int .i64 typ, .int .i64 wid] 35)
  have hga := (Grew.refl w).alloc (.cells #[.int .i64 pos, .int .i64 par, .int .i64 typ, .int .i64 wid] 35)
  have hz1 : (w.alloc (.cells #[.int .i64 pos, .int .i64 par, .int .i64 typ, .int .i64 wid] 35)).heap.size = pr + 1 := by rw [World.size_alloc, hpr]
  generalize (w.alloc (.cells #[.int .i64 pos, .int .i64 par, .int .i64 typ, .int .i64 wid] 35)) = x1 at *
  rw [hpr] at hr1
  try rw [hpr]
  have HRR := Lib.hid hr1
  clear hr1 hpr
  replace HD := Lib.hid (DocAt.grew HD.out hga)
  replace HT := Lib.hid (NodeAt.grew hga HT.out)
  replace HG := Lib.hid (HG.out.trans hga)
  clear hga
  have hr2 := heap_alloc_new x1 (.cells #[.int .i64 tk, .int .i64 tn, .int .u64 tu, .string ts, .slice ta4 tn4 tc4, .slice ta5 tn5 tc5] 27)
  have hga := (Grew.refl x1).alloc (.cells #[.int .i64 tk, .int .i64 tn, .int .u64 tu, .string ts, .slice ta4 tn4 tc4, .slice ta5 tn5 tc5] 27)
  generalize (x1.alloc (.cells #[.int .i64 tk, .int .i64 tn, .int .u64 tu, .string ts, .slice ta4 tn4 tc4, .slice ta5 tn5 tc5] 27)) = x2 at *
  rw [hz1] at hr2
  try rw [hz1]
  have HRT := Lib.hid hr2
  clear hr2 hz1
  replace HD := Lib.hid (DocAt.grew HD.out hga)
  replace HT := Lib.hid (NodeAt.grew hga HT.out)
  replace HRR := Lib.hid (hga.heap HRR.out)
  replace HG := Lib.hid (HG.out.trans hga)
  clear hga
  have c0 := row_cellT HRR.out 0 _ rfl
  have c1 := row_cellT HRR.out 1 _ rfl
  have c2 := row_cellT HRR.out 2 _ rfl
  have c3 := row_cellT HRR.out 3 _ rfl
  have e0 := row_cellT HRT.out 0 _ rfl
  have e1 := row_cellT HRT.out 1 _ rfl
  have e2 := row_cellT HRT.out 2 _ rfl
  have e3 := row_cellT HRT.out 3 _ rfl
  have e4 := row_cellT HRT.out 4 _ rfl
  have e5 := row_cellT HRT.out 5 _ rfl
  go_wp2_with fail
  refine (code_any par x2).mono ?_
  rintro r w1 ⟨⟨cp, rfl⟩, e⟩
  rw [e]
  clear e w1
  go_wp2_with fail
  refine (code_any wid x2).mono ?_
  rintro r w1 ⟨⟨cw, rfl⟩, e⟩
  rw [e]
  clear e w1
  by_cases hwp : isW par = true
  rotate_left
  · have hce : (codeE par != 0) = true := by unfold codeE; rw [if_neg hwp]; decide
    have HV : Hid (res = false) := by show _ = _; rw [← HRES.out, if_pos (by rw [show isW par = false by simpa using hwp]; rfl)]
    clear hwp
    go_wp2_with fail
    go_ret
    exact ⟨by rw [HV.out]; rfl, HG.out⟩
  have hce : codeE par = 0 := by unfold codeE; rw [if_pos hwp]
  rw [hce]
  clear hce
  by_cases hww : isW wid = true
  rotate_left
  · have hce : (codeE wid != 0) = true := by unfold codeE; rw [if_neg hww]; decide
    have HV : Hid (res = false) := by show _ = _; rw [← HRES.out, if_pos (by rw [show isW wid = false by simpa using hww, Bool.and_false]; rfl)]
    clear hww hwp
    go_wp2_with fail
    go_ret
    exact ⟨by rw [HV.out]; rfl, HG.out⟩
  have hce : codeE wid = 0 := by unfold codeE; rw [if_pos hww]
  rw [hce]
  clear hce
  have HWP := Lib.hid hwp
  have HWW := Lib.hid hww
  clear hwp hww
  go_wp2_with fail
  obtain ⟨lg, hlg⟩ : ∃ b, Ft.legalB typ = b := ⟨_, rfl⟩
  have hh := Ft.legal_any typ x2
  rw [hlg] at hh
  have HLG := Lib.hid hlg
  clear hlg
  refine hh.mono ?_
  clear hh
  rintro r u1 ⟨rfl, hgc⟩
  clear c0 c1 c2 c3
  clear e0 e1 e2 e3 e4 e5
  replace HD := Lib.hid (DocAt.grew HD.out hgc)
  replace HT := Lib.hid (NodeAt.grew hgc HT.out)
  replace HRR := Lib.hid (hgc.heap HRR.out)
  replace HRT := Lib.hid (hgc.heap HRT.out)
  replace HG := Lib.hid (HG.out.trans hgc)
  clear hgc
  have c0 := row_cellT HRR.out 0 _ rfl
  have c1 := row_cellT HRR.out 1 _ rfl
  have c2 := row_cellT HRR.out 2 _ rfl
  have c3 := row_cellT HRR.out 3 _ rfl
  have e0 := row_cellT HRT.out 0 _ rfl
  have e1 := row_cellT HRT.out 1 _ rfl
  have e2 := row_cellT HRT.out 2 _ rfl
  have e3 := row_cellT HRT.out 3 _ rfl
  have e4 := row_cellT HRT.out 4 _ rfl
  have e5 := row_cellT HRT.out 5 _ rfl
  cases lg
  · have HV : Hid (res = false) := by show _ = _; rw [← HRES.out, if_pos (by rw [HLG.out, Bool.and_false])]
    go_wp2_with fail
    go_ret
    exact ⟨by rw [HV.out]; rfl, HG.out⟩
  have HRS : Hid (res = if Ft.inlineB typ = true then lookF d typ pos par wid 0 t else if farB d typ pos par wid lim = false then false else if farT typ = true then lookF d typ pos par wid (pos - (numF d pos par).1) t else listF d typ wid (pos - (numF d pos par).1) t) := by show _ = _; rw [← HRES.out, if_neg (by rw [HWP.out, HWW.out, HLG.out]; decide)]
  clear HRES
  go_upto_region 5 with fail
  obtain ⟨lv, hlv⟩ : ∃ v, (match findI typ looksL 0 with | some q => q.2 | none => Value.nilFunc) = v := ⟨_, rfl⟩
  have HLV := Lib.hid hlv
  clear hlv
  refine wp_region_tables Grew [[], [], [1], [0, 1, 2], [0, 1, 2, 3]] [[(41, 1), (42, 2)], [(40, 0)], [(40, 0), (41, 1)], [(40, 0), (41, 1), (42, 2)], [(40, 0), (41, 1), (42, 2), (43, 3)]] [(40, 0), (41, 1), (42, 2), (43, 3), (13, 4)]
    [fun v w => ∃ b, v = .map (some b) ∧ MapI w b looksL, Is (.pointer (some ⟨pr, 2, none⟩)), Is (.int .i64 typ), Is (lv), Is (lv)]
    (by kernel_rfl) Grew.trans Grew.refl (Grew.refl _).drew (by kernel_rfl) ⟨fun v w w' hg ⟨b, e, h⟩ => ⟨b, e, hg.heap h⟩, is_st, is_st, is_st, is_st, trivial⟩ ?_ rfl ?_
  rotate_left
  · intro y w2 hG hF
    simp only [factsH, Is, and_true, Nat.reduceAdd] at hF
    have hlast := hF.2.2.2.2
    clear hF
    simp only [fillL, Act.put, List.setIfInBounds_toArray, List.set_cons_zero, List.set_cons_succ, List.getD_cons_zero, List.getD_cons_succ, hlast]
    have HG2 := Lib.hid hG
    clear hG hlast
    clear c0 c1 c2 c3
    clear e0 e1 e2 e3 e4 e5
    have hgc := HG2.out
    clear HG2
    replace HD := Lib.hid (DocAt.grew HD.out hgc)
    replace HT := Lib.hid (NodeAt.grew hgc HT.out)
    replace HRR := Lib.hid (hgc.heap HRR.out)
    replace HRT := Lib.hid (hgc.heap HRT.out)
    replace HG := Lib.hid (HG.out.trans hgc)
    clear hgc
    have c0 := row_cellT HRR.out 0 _ rfl
    have c1 := row_cellT HRR.out 1 _ rfl
    have c2 := row_cellT HRR.out 2 _ rfl
    have c3 := row_cellT HRR.out 3 _ rfl
    have e0 := row_cellT HRT.out 0 _ rfl
    have e1 := row_cellT HRT.out 1 _ rfl
    have e2 := row_cellT HRT.out 2 _ rfl
    have e3 := row_cellT HRT.out 3 _ rfl
    have e4 := row_cellT HRT.out 4 _ rfl
    have e5 := row_cellT HRT.out 5 _ rfl
    cases hnear : nearT typ
    rotate_left
    · obtain ⟨j, f, hf, hfc, hcall⟩ := look_call d typ (.inl hnear)
      have HFC := Lib.hid hfc
      clear hfc
      have HV : Hid (res = lookF d typ pos par wid 0 t) := by show _ = _; rw [HRS.out, if_pos (by rw [inline_near]; exact hnear)]
      obtain rfl : lv = fF f := by rw [← HLV.out, hf]
      have HC := Lib.hid hcall
      have heq := eql_fn f
      have hin := Ft.inline_any typ w2
      rw [inline_near, hnear] at hin
      have HIN := Lib.hid hin
      clear hcall hf hnear hin
      unfold fF
      go_wp2_with fail
      refine HIN.out.mono ?_
      rintro r u3 ⟨rfl, hgc⟩
      clear c0 c1 c2 c3
      clear e0 e1 e2 e3 e4 e5
      replace HD := Lib.hid (DocAt.grew HD.out hgc)
      replace HT := Lib.hid (NodeAt.grew hgc HT.out)
      replace HRR := Lib.hid (hgc.heap HRR.out)
      replace HRT := Lib.hid (hgc.heap HRT.out)
      replace HG := Lib.hid (HG.out.trans hgc)
      clear hgc
      have c0 := row_cellT HRR.out 0 _ rfl
      have c1 := row_cellT HRR.out 1 _ rfl
      have c2 := row_cellT HRR.out 2 _ rfl
      have c3 := row_cellT HRR.out 3 _ rfl
      have e0 := row_cellT HRT.out 0 _ rfl
      have e1 := row_cellT HRT.out 1 _ rfl
      have e2 := row_cellT HRT.out 2 _ rfl
      have e3 := row_cellT HRT.out 3 _ rfl
      have e4 := row_cellT HRT.out 4 _ rfl
      have e5 := row_cellT HRT.out 5 _ rfl
      rcases HFC.out with e | e | e | e | e | e | e
      all_goals
      · subst e
        go_wp2_with fail
        refine (HC.out _ pos par wid 0 t _ _ HD.out HT.out hp (by omega) hs HWW.out).mono ?_
        rintro r u4 ⟨rfl, hgc⟩
        replace HD := Lib.hid (DocAt.grew HD.out hgc)
        replace HT := Lib.hid (NodeAt.grew hgc HT.out)
        replace HRR := Lib.hid (hgc.heap HRR.out)
        replace HRT := Lib.hid (hgc.heap HRT.out)
        replace HG := Lib.hid (HG.out.trans hgc)
        clear hgc
        clear c0 c1 c2 c3
        clear e0 e1 e2 e3 e4 e5
        go_wp2_with fail
        go_ret
        exact ⟨by rw [HV.out]; rfl, HG.out⟩
    have hin := Ft.inline_any typ
    rw [inline_near, hnear] at hin
    have HIN := Lib.hid hin
    clear hin
    have HRT2 : Hid (res = if farB d typ pos par wid lim = false then false else if farT typ = true then lookF d typ pos par wid (pos - (numF d pos par).1) t else listF d typ wid (pos - (numF d pos par).1) t) := by show _ = _; rw [HRS.out, if_neg (by rw [inline_near, hnear]; decide)]
    obtain ⟨f, HF, HCALL⟩ : ∃ f, Hid ((farT typ = true ∧ lv = fF f ∧ (f = 73 ∨ f = 74 ∨ f = 75 ∨ f = 76 ∨ f = 77 ∨ f = 78 ∨ f = 79)) ∨ (farT typ = false ∧ lv = .nilFunc ∧ f = 47)) ∧ Hid (∀ (w : World) (at_ : Int), DocAt w (.slice da d.length dc) d → NodeAt w t (.agg #[.int .i64 tk, .int .i64 tn, .int .u64 tu, .string ts, .slice ta4 tn4 tc4, .slice ta5 tn5 tc5]) → 0 ≤ at_ ∧ at_ ≤ 1048576 → Calls Try.prog f #[.slice da d.length dc, .agg #[.int .i64 pos, .int .i64 par, .int .i64 typ, .int .i64 wid], .int .i64 at_, .agg #[.int .i64 tk, .int .i64 tn, .int .u64 tu, .string ts, .slice ta4 tn4 tc4, .slice ta5 tn5 tc5]] w fun r w' => r = .returned (.bool (if farT typ = true then lookF d typ pos par wid at_ t else listF d typ wid at_ t)) ∧ Grew w w') := by
      cases hfar : farT typ
      · refine ⟨47, .inr ⟨rfl, ?_, rfl⟩, fun w at_ h1 h2 h3 => ?_⟩
        · rw [← HLV.out, legal_far typ HLG.out hnear hfar]
        · rw [if_neg (by decide)]; exact hl hnear hfar _ pos par wid at_ _ w h1 h2 h3 HWW.out
      · obtain ⟨j, f, hf, hfc, hcall⟩ := look_call d typ (.inr hfar)
        refine ⟨f, .inl ⟨rfl, ?_, hfc⟩, fun w at_ h1 h2 h3 => ?_⟩
        · rw [← HLV.out, hf]
        · rw [if_pos rfl]; exact hcall _ pos par wid at_ t _ w h1 h2 hp h3 hs HWW.out
    have HLW : Hid ((lv = fF f ∧ (f = 73 ∨ f = 74 ∨ f = 75 ∨ f = 76 ∨ f = 77 ∨ f = 78 ∨ f = 79)) ∨ (lv = .nilFunc ∧ f = 47)) := HF.out.elim (fun h => .inl h.2) (fun h => .inr h.2)
    clear HF
    have HNU := Lib.hid (dnum_any d (.slice da d.length dc) pos par)
    have HNB := Lib.hid (num_bound d pos par HDL.out)
    have hwrg : IntKind.i64.wrap (aheadF typ * wid) = aheadF typ * wid ∧ 0 ≤ aheadF typ * wid ∧ aheadF typ * wid ≤ 24 := by
      have h1 := ahead_range typ
      have h2 : 0 ≤ aheadF typ * wid ∧ aheadF typ * wid ≤ 24 := by
        rcases isW_cases HWW.out with h | h | h | h <;> (rw [h]; omega)
      exact ⟨by rw [IntKind.wrap_i64]; omega, h2⟩
    have HWR := Lib.hid hwrg
    clear hwrg
    unfold farB at HRT2
    obtain ⟨q, hq⟩ : ∃ q, numF d pos par = q := ⟨_, rfl⟩
    rw [hq] at HRT2 HNU HNB
    clear hq
    obtain ⟨nv, ni⟩ := q
    simp only at HRT2 HNU HNB
    rcases HLW.out with ⟨e, hfc⟩ | ⟨e, e2⟩
    · subst e
      have HFC := Lib.hid hfc
      clear hfc
      have heq := eql_fn f
      unfold fF
      skip
      go_wp2_with fail
      refine (HIN.out w2).mono ?_
      rintro r u3 ⟨rfl, hgc⟩
      clear c0 c1 c2 c3
      clear e0 e1 e2 e3 e4 e5
      replace HD := Lib.hid (DocAt.grew HD.out hgc)
      replace HT := Lib.hid (NodeAt.grew hgc HT.out)
      replace HRR := Lib.hid (hgc.heap HRR.out)
      replace HRT := Lib.hid (hgc.heap HRT.out)
      replace HG := Lib.hid (HG.out.trans hgc)
      clear hgc
      have c0 := row_cellT HRR.out 0 _ rfl
      have c1 := row_cellT HRR.out 1 _ rfl
      have c2 := row_cellT HRR.out 2 _ rfl
      have c3 := row_cellT HRR.out 3 _ rfl
      have e0 := row_cellT HRT.out 0 _ rfl
      have e1 := row_cellT HRT.out 1 _ rfl
      have e2 := row_cellT HRT.out 2 _ rfl
      have e3 := row_cellT HRT.out 3 _ rfl
      have e4 := row_cellT HRT.out 4 _ rfl
      have e5 := row_cellT HRT.out 5 _ rfl
      go_wp2_with fail
      refine (HNU.out u3 HD.out hp).mono ?_
      rintro r u4 ⟨rfl, hgc⟩
      clear c0 c1 c2 c3
      clear e0 e1 e2 e3 e4 e5
      replace HD := Lib.hid (DocAt.grew HD.out hgc)
      replace HT := Lib.hid (NodeAt.grew hgc HT.out)
      replace HRR := Lib.hid (hgc.heap HRR.out)
      replace HRT := Lib.hid (hgc.heap HRT.out)
      replace HG := Lib.hid (HG.out.trans hgc)
      clear hgc
      have c0 := row_cellT HRR.out 0 _ rfl
      have c1 := row_cellT HRR.out 1 _ rfl
      have c2 := row_cellT HRR.out 2 _ rfl
      have c3 := row_cellT HRR.out 3 _ rfl
      have e0 := row_cellT HRT.out 0 _ rfl
      have e1 := row_cellT HRT.out 1 _ rfl
      have e2 := row_cellT HRT.out 2 _ rfl
      have e3 := row_cellT HRT.out 3 _ rfl
      have e4 := row_cellT HRT.out 4 _ rfl
      have e5 := row_cellT HRT.out 5 _ rfl
      go_upto_region 11 with fail
      cases ni
      · have HV : Hid (res = false) := by show _ = _; rw [HRT2.out]; rfl
        go_quiet (fail)
        have HGF := Lib.hid (HG.out.trans ((Grew.refl u4).drewN nq))
        go_wp2_with fail
        go_ret
        exact ⟨by rw [HV.out]; rfl, HGF.out⟩
      by_cases hle : nv ≤ pos
      rotate_left
      · have HV : Hid (res = false) := by show _ = _; rw [HRT2.out, decide_eq_false hle]; rfl
        have hgt : pos < nv := by omega
        clear hle
        go_quiet (fail)
        have HGF := Lib.hid (HG.out.trans ((Grew.refl u4).drewN nq))
        go_wp2_with fail
        go_ret
        exact ⟨by rw [HV.out]; rfl, HGF.out⟩
      obtain ⟨hb1, hb2, hb3⟩ := HNB.out rfl
      have hws : IntKind.i64.wrap (pos - nv) = pos - nv := by rw [IntKind.wrap_i64]; omega
      have hwa := HWR.out.1
      have hwb : IntKind.i64.wrap (pos - nv - aheadF typ * wid) = pos - nv - aheadF typ * wid := by have := HWR.out.2; rw [IntKind.wrap_i64]; omega
      have HAT : Hid (0 ≤ pos - nv ∧ pos - nv ≤ 1048576) := ⟨by omega, by omega⟩
      have HPN : Hid (0 ≤ nv) := hb3
      have HLE := Lib.hid hle
      clear hb1 hb2 hb3
      obtain ⟨bl, hbl⟩ : ∃ b, decide (lim ≤ pos - nv - aheadF typ * wid) = b := ⟨_, rfl⟩
      have HBL := Lib.hid hbl
      clear hbl
      have HRB : Hid (res = if bl = true then false else if farT typ = true then lookF d typ pos par wid (pos - nv) t else listF d typ wid (pos - nv) t) := by
        show _ = _
        rw [HRT2.out, decide_eq_true hle, ← HBL.out]
        by_cases hlt : pos - nv - aheadF typ * wid < lim
        · rw [decide_eq_true hlt, decide_eq_false (by omega)]; rfl
        · rw [decide_eq_false hlt, decide_eq_true (by omega)]; rfl
      refine wp_region_tables Grew [[], [0], [0, 1], [0, 1, 2], [0, 1, 2], [0, 1, 2, 4], [0, 1, 2, 3, 4, 5], [0, 1, 2, 3, 4, 5, 6], [0, 1, 2, 3, 4, 5, 6, 7], [0, 1, 2, 3, 4, 5, 6, 7, 8], [0, 1, 2, 3, 4, 5, 6, 7, 8, 9], [0, 1, 2, 3, 4, 5, 6, 7, 8], [0, 1, 2, 3, 4, 5, 6, 7, 8, 9, 10, 11], [0, 1, 2, 3, 4, 5, 6, 7, 8], [0, 1, 2, 3, 4, 5, 6, 7, 8, 13], [0, 1, 2, 3, 4, 5, 6, 7, 8, 13, 14], [0, 1, 2, 3, 4, 5, 6, 7, 8], [0, 1, 2, 3, 4, 5, 6, 7, 8, 16], [0, 1, 2, 3, 4, 5, 6, 7, 8, 13, 14, 15, 16, 17], [0, 1, 2, 3, 4, 5, 6, 7, 8, 9, 10, 11, 12, 13, 14, 15, 16, 17, 18], [0, 1, 2, 3, 4, 5, 6, 7, 8], [0, 1, 2, 3, 4, 5, 6, 7, 8, 9, 10, 11, 12, 13, 14, 15, 16, 17, 18, 19, 20], [0, 1, 2, 3, 4, 5, 6, 7, 8, 9, 10, 11, 12, 13, 14, 15, 16, 17, 18, 19, 20, 21]] [[], [(63, 0)], [(63, 0), (64, 1)], [(63, 0), (64, 1), (65, 2), (67, 4), (68, 5)], [(63, 0), (64, 1), (65, 2), (66, 3)], [(63, 0), (64, 1), (65, 2), (66, 3), (67, 4)], [(63, 0), (64, 1), (65, 2), (66, 3), (67, 4), (68, 5)], [(63, 0), (64, 1), (65, 2), (66, 3), (67, 4), (68, 5), (69, 6)], [(63, 0), (64, 1), (65, 2), (66, 3), (67, 4), (68, 5), (69, 6), (70, 7)], [(63, 0), (64, 1), (65, 2), (66, 3), (67, 4), (68, 5), (69, 6), (70, 7), (71, 8), (74, 11), (76, 13), (77, 14), (78, 15), (79, 16), (80, 17), (81, 18), (83, 20)], [(63, 0), (64, 1), (65, 2), (66, 3), (67, 4), (68, 5), (69, 6), (70, 7), (71, 8), (72, 9), (74, 11), (76, 13), (77, 14), (78, 15), (79, 16), (80, 17), (81, 18), (83, 20)], [(63, 0), (64, 1), (65, 2), (66, 3), (67, 4), (68, 5), (69, 6), (70, 7), (71, 8), (72, 9), (73, 10), (76, 13), (77, 14), (78, 15), (79, 16), (80, 17), (81, 18), (83, 20)], [(63, 0), (64, 1), (65, 2), (66, 3), (67, 4), (68, 5), (69, 6), (70, 7), (71, 8), (72, 9), (73, 10), (74, 11), (76, 13), (77, 14), (78, 15), (79, 16), (80, 17), (81, 18), (83, 20)], [(63, 0), (64, 1), (65, 2), (66, 3), (67, 4), (68, 5), (69, 6), (70, 7), (71, 8), (72, 9), (73, 10), (74, 11), (75, 12), (79, 16), (80, 17), (83, 20)], [(63, 0), (64, 1), (65, 2), (66, 3), (67, 4), (68, 5), (69, 6), (70, 7), (71, 8), (72, 9), (73, 10), (74, 11), (75, 12), (76, 13), (79, 16), (80, 17), (83, 20)], [(63, 0), (64, 1), (65, 2), (66, 3), (67, 4), (68, 5), (69, 6), (70, 7), (71, 8), (72, 9), (73, 10), (74, 11), (75, 12), (76, 13), (77, 14), (79, 16), (80, 17), (83, 20)], [(63, 0), (64, 1), (65, 2), (66, 3), (67, 4), (68, 5), (69, 6), (70, 7), (71, 8), (72, 9), (73, 10), (74, 11), (75, 12), (76, 13), (77, 14), (78, 15), (83, 20)], [(63, 0), (64, 1), (65, 2), (66, 3), (67, 4), (68, 5), (69, 6), (70, 7), (71, 8), (72, 9), (73, 10), (74, 11), (75, 12), (76, 13), (77, 14), (78, 15), (79, 16), (83, 20)], [(63, 0), (64, 1), (65, 2), (66, 3), (67, 4), (68, 5), (69, 6), (70, 7), (71, 8), (72, 9), (73, 10), (74, 11), (75, 12), (76, 13), (77, 14), (78, 15), (79, 16), (80, 17), (83, 20)], [(63, 0), (64, 1), (65, 2), (66, 3), (67, 4), (68, 5), (69, 6), (70, 7), (71, 8), (72, 9), (73, 10), (74, 11), (75, 12), (76, 13), (77, 14), (78, 15), (79, 16), (80, 17), (81, 18), (83, 20)], [(63, 0), (64, 1), (65, 2), (66, 3), (67, 4), (68, 5), (69, 6), (70, 7), (71, 8), (72, 9), (73, 10), (74, 11), (75, 12), (76, 13), (77, 14), (78, 15), (79, 16), (80, 17), (81, 18), (82, 19)], [(63, 0), (64, 1), (65, 2), (66, 3), (67, 4), (68, 5), (69, 6), (70, 7), (71, 8), (72, 9), (73, 10), (74, 11), (75, 12), (76, 13), (77, 14), (78, 15), (79, 16), (80, 17), (81, 18), (82, 19), (83, 20)], [(63, 0), (64, 1), (65, 2), (66, 3), (67, 4), (68, 5), (69, 6), (70, 7), (71, 8), (72, 9), (73, 10), (74, 11), (75, 12), (76, 13), (77, 14), (78, 15), (79, 16), (80, 17), (81, 18), (82, 19), (83, 20), (84, 21)]] [(63, 0), (64, 1), (65, 2), (66, 3), (67, 4), (68, 5), (69, 6), (70, 7), (71, 8), (72, 9), (73, 10), (74, 11), (75, 12), (76, 13), (77, 14), (78, 15), (79, 16), (80, 17), (81, 18), (82, 19), (83, 20), (84, 21), (85, 22)]
        [Is (.bool true), Is (.bool false), Is (.bool false), Is (.int .i64 nv), Is (.pointer (some ⟨pr, 0, none⟩)), Is (.int .i64 pos), Is (.bool false), Is (.bool false), Is (.bool false), Is (.pointer (some ⟨pr, 0, none⟩)), Is (.int .i64 pos), Is (.int .i64 nv), Is (.int .i64 (pos - nv)), Is (.pointer (some ⟨pr, 2, none⟩)), Is (.int .i64 typ), Is (.int .i64 (aheadF typ)), Is (.pointer (some ⟨pr, 3, none⟩)), Is (.int .i64 wid), Is (.int .i64 (aheadF typ * wid)), Is (.int .i64 (pos - nv - aheadF typ * wid)), Is (.int .i64 lim), Is (.bool bl), Is (.bool bl)]
        (by kernel_rfl) Grew.trans Grew.refl (Grew.refl _).drew (by kernel_rfl) ⟨is_st, is_st, is_st, is_st, is_st, is_st, is_st, is_st, is_st, is_st, is_st, is_st, is_st, is_st, is_st, is_st, is_st, is_st, is_st, is_st, is_st, is_st, is_st, trivial⟩ ?_ rfl ?_
      rotate_left
      · intro y w2 hG hF
        simp only [factsH, Is, and_true, Nat.reduceAdd] at hF
        have hlast := hF.2.2.2.2.2.2.2.2.2.2.2.2.2.2.2.2.2.2.2.2.2.2
        clear hF
        simp only [fillL, Act.put, List.setIfInBounds_toArray, List.set_cons_zero, List.set_cons_succ, List.getD_cons_zero, List.getD_cons_succ, hlast]
        have hgc := hG
        clear hG hlast
        clear c0 c1 c2 c3
        clear e0 e1 e2 e3 e4 e5
        replace HD := Lib.hid (DocAt.grew HD.out hgc)
        replace HT := Lib.hid (NodeAt.grew hgc HT.out)
        replace HRR := Lib.hid (hgc.heap HRR.out)
        replace HRT := Lib.hid (hgc.heap HRT.out)
        replace HG := Lib.hid (HG.out.trans hgc)
        clear hgc
        have c0 := row_cellT HRR.out 0 _ rfl
        have c1 := row_cellT HRR.out 1 _ rfl
        have c2 := row_cellT HRR.out 2 _ rfl
        have c3 := row_cellT HRR.out 3 _ rfl
        have e0 := row_cellT HRT.out 0 _ rfl
        have e1 := row_cellT HRT.out 1 _ rfl
        have e2 := row_cellT HRT.out 2 _ rfl
        have e3 := row_cellT HRT.out 3 _ rfl
        have e4 := row_cellT HRT.out 4 _ rfl
        have e5 := row_cellT HRT.out 5 _ rfl
        cases bl
        rotate_left
        · have HV : Hid (res = false) := by show _ = _; rw [HRB.out]; rfl
          go_wp2_with fail
          go_ret
          exact ⟨by rw [HV.out]; rfl, HG.out⟩
        have HV : Hid (res = if farT typ = true then lookF d typ pos par wid (pos - nv) t else listF d typ wid (pos - nv) t) := by show _ = _; rw [HRB.out]; rfl
        rcases HFC.out with e | e | e | e | e | e | e
        all_goals
        · subst e
          have hcl := HCALL.out w2 (pos - nv) HD.out HT.out HAT.out
          rw [← HV.out] at hcl
          have HCL := Lib.hid hcl
          clear hcl
          go_wp2_with fail
          refine (HCL.out).mono ?_
          rintro r u5 ⟨rfl, hgc⟩
          replace HD := Lib.hid (DocAt.grew HD.out hgc)
          replace HT := Lib.hid (NodeAt.grew hgc HT.out)
          replace HRR := Lib.hid (hgc.heap HRR.out)
          replace HRT := Lib.hid (hgc.heap HRT.out)
          replace HG := Lib.hid (HG.out.trans hgc)
          clear hgc
          clear c0 c1 c2 c3
          clear e0 e1 e2 e3 e4 e5
          go_wp2_with fail
          go_ret
          exact ⟨rfl, HG.out⟩
      refine ⟨?_, ?_⟩
      · intro y w2 hG hD K hK
        generalize hA : fillL y _ _ = A at hK ⊢
        simp only [fillL, Act.put, List.setIfInBounds_toArray, List.set_cons_zero, List.set_cons_succ, List.getD_cons_zero, List.getD_cons_succ, Is] at hA
        subst hA
        refine ite_yes (by rfl) ?_
        go_simp
        exact hK _ _ _ rfl (Grew.refl _) rfl
      refine ⟨?_, ?_⟩
      · intro y w2 hG hD K hK
        simp only [depsH, List.getD_cons_zero, List.getD_cons_succ, Is, and_true] at hD
        have h0 := hD
        clear hD
        generalize hA : fillL y _ _ = A at hK ⊢
        simp only [fillL, Act.put, List.setIfInBounds_toArray, List.set_cons_zero, List.set_cons_succ, List.getD_cons_zero, List.getD_cons_succ, Is] at hA
        subst hA
        simp only [h0] at hK ⊢
        clear h0
        refine ite_yes (by rfl) ?_
        go_simp
        exact hK _ _ _ rfl (Grew.refl _) rfl
      refine ⟨?_, ?_⟩
      · intro y w2 hG hD K hK
        simp only [depsH, List.getD_cons_zero, List.getD_cons_succ, Is, and_true] at hD
        have h0 := hD.1
        have h1 := hD.2
        clear hD
        generalize hA : fillL y _ _ = A at hK ⊢
        simp only [fillL, Act.put, List.setIfInBounds_toArray, List.set_cons_zero, List.set_cons_succ, List.getD_cons_zero, List.getD_cons_succ, Is] at hA
        subst hA
        simp only [h0, h1] at hK ⊢
        clear h0 h1
        refine ite_yes (by rfl) ?_
        go_simp
        exact hK _ _ _ rfl (Grew.refl _) rfl
      refine ⟨?_, ?_⟩
      · intro y w2 hG hD K hK
        simp only [depsH, List.getD_cons_zero, List.getD_cons_succ, Is, and_true] at hD
        have h0 := hD.1
        have h1 := hD.2.1
        have h2 := hD.2.2
        clear hD
        generalize hA : fillL y _ _ = A at hK ⊢
        simp only [fillL, Act.put, List.setIfInBounds_toArray, List.set_cons_zero, List.set_cons_succ, List.getD_cons_zero, List.getD_cons_succ, Is] at hA
        subst hA
        simp only [h0, h1, h2] at hK ⊢
        clear h0 h1 h2
        refine ite_yes (by rfl) ?_
        go_simp
        exact hK _ _ _ rfl (Grew.refl _) rfl
      refine ⟨?_, ?_⟩
      · intro y w2 hG hD K hK
        simp only [depsH, List.getD_cons_zero, List.getD_cons_succ, Is, and_true] at hD
        have h0 := hD.1
        have h1 := hD.2.1
        have h2 := hD.2.2
        clear hD
        generalize hA : fillL y _ _ = A at hK ⊢
        simp only [fillL, Act.put, List.setIfInBounds_toArray, List.set_cons_zero, List.set_cons_succ, List.getD_cons_zero, List.getD_cons_succ, Is] at hA
        subst hA
        simp only [h0, h1, h2] at hK ⊢
        clear h0 h1 h2
        refine ite_yes (by rfl) ?_
        go_simp
        exact hK _ _ _ rfl (Grew.refl _) rfl
      refine ⟨?_, ?_⟩
      · intro y w2 hG hD K hK
        simp only [depsH, List.getD_cons_zero, List.getD_cons_succ, Is, and_true] at hD
        have h0 := hD.1
        have h1 := hD.2.1
        have h2 := hD.2.2.1
        have h4 := hD.2.2.2
        clear hD
        have dc0 := hG.cell c0
        have dc1 := hG.cell c1
        have dc2 := hG.cell c2
        have dc3 := hG.cell c3
        generalize hA : fillL y _ _ = A at hK ⊢
        simp only [fillL, Act.put, List.setIfInBounds_toArray, List.set_cons_zero, List.set_cons_succ, List.getD_cons_zero, List.getD_cons_succ, Is] at hA
        subst hA
        simp only [h0, h1, h2, h4] at hK ⊢
        clear h0 h1 h2 h4
        refine ite_yes (by rfl) ?_
        go_simp
        exact hK _ _ _ rfl (Grew.refl _) rfl
      refine ⟨?_, ?_⟩
      · intro y w2 hG hD K hK
        simp only [depsH, List.getD_cons_zero, List.getD_cons_succ, Is, and_true] at hD
        have h0 := hD.1
        have h1 := hD.2.1
        have h2 := hD.2.2.1
        have h3 := hD.2.2.2.1
        have h4 := hD.2.2.2.2.1
        have h5 := hD.2.2.2.2.2
        clear hD
        generalize hA : fillL y _ _ = A at hK ⊢
        simp only [fillL, Act.put, List.setIfInBounds_toArray, List.set_cons_zero, List.set_cons_succ, List.getD_cons_zero, List.getD_cons_succ, Is] at hA
        subst hA
        simp only [h0, h1, h2, h3, h4, h5] at hK ⊢
        clear h0 h1 h2 h3 h4 h5
        refine ite_yes (by rfl) ?_
        go_simp
        exact hK _ _ _ rfl (Grew.refl _) (by first | rfl | exact congrArg Value.bool (decide_eq_false (by omega)))
      refine ⟨?_, ?_⟩
      · intro y w2 hG hD K hK
        simp only [depsH, List.getD_cons_zero, List.getD_cons_succ, Is, and_true] at hD
        have h0 := hD.1
        have h1 := hD.2.1
        have h2 := hD.2.2.1
        have h3 := hD.2.2.2.1
        have h4 := hD.2.2.2.2.1
        have h5 := hD.2.2.2.2.2.1
        have h6 := hD.2.2.2.2.2.2
        clear hD
        generalize hA : fillL y _ _ = A at hK ⊢
        simp only [fillL, Act.put, List.setIfInBounds_toArray, List.set_cons_zero, List.set_cons_succ, List.getD_cons_zero, List.getD_cons_succ, Is] at hA
        subst hA
        simp only [h0, h1, h2, h3, h4, h5, h6] at hK ⊢
        clear h0 h1 h2 h3 h4 h5 h6
        refine ite_yes (by rfl) ?_
        go_simp
        exact hK _ _ _ rfl (Grew.refl _) rfl
      refine ⟨?_, ?_⟩
      · intro y w2 hG hD K hK
        simp only [depsH, List.getD_cons_zero, List.getD_cons_succ, Is, and_true] at hD
        have h0 := hD.1
        have h1 := hD.2.1
        have h2 := hD.2.2.1
        have h3 := hD.2.2.2.1
        have h4 := hD.2.2.2.2.1
        have h5 := hD.2.2.2.2.2.1
        have h6 := hD.2.2.2.2.2.2.1
        have h7 := hD.2.2.2.2.2.2.2
        clear hD
        generalize hA : fillL y _ _ = A at hK ⊢
        simp only [fillL, Act.put, List.setIfInBounds_toArray, List.set_cons_zero, List.set_cons_succ, List.getD_cons_zero, List.getD_cons_succ, Is] at hA
        subst hA
        simp only [h0, h1, h2, h3, h4, h5, h6, h7] at hK ⊢
        clear h0 h1 h2 h3 h4 h5 h6 h7
        refine ite_yes (by rfl) ?_
        go_simp
        exact hK _ _ _ rfl (Grew.refl _) rfl
      refine ⟨?_, ?_⟩
      · intro y w2 hG hD K hK
        simp only [depsH, List.getD_cons_zero, List.getD_cons_succ, Is, and_true] at hD
        have h0 := hD.1
        have h1 := hD.2.1
        have h2 := hD.2.2.1
        have h3 := hD.2.2.2.1
        have h4 := hD.2.2.2.2.1
        have h5 := hD.2.2.2.2.2.1
        have h6 := hD.2.2.2.2.2.2.1
        have h7 := hD.2.2.2.2.2.2.2.1
        have h8 := hD.2.2.2.2.2.2.2.2
        clear hD
        generalize hA : fillL y _ _ = A at hK ⊢
        simp only [fillL, Act.put, List.setIfInBounds_toArray, List.set_cons_zero, List.set_cons_succ, List.getD_cons_zero, List.getD_cons_succ, Is] at hA
        subst hA
        simp only [h0, h1, h2, h3, h4, h5, h6, h7, h8] at hK ⊢
        clear h0 h1 h2 h3 h4 h5 h6 h7 h8
        refine ite_yes (by rfl) ?_
        go_simp
        exact hK _ _ _ rfl (Grew.refl _) rfl
      refine ⟨?_, ?_⟩
      · intro y w2 hG hD K hK
        simp only [depsH, List.getD_cons_zero, List.getD_cons_succ, Is, and_true] at hD
        have h0 := hD.1
        have h1 := hD.2.1
        have h2 := hD.2.2.1
        have h3 := hD.2.2.2.1
        have h4 := hD.2.2.2.2.1
        have h5 := hD.2.2.2.2.2.1
        have h6 := hD.2.2.2.2.2.2.1
        have h7 := hD.2.2.2.2.2.2.2.1
        have h8 := hD.2.2.2.2.2.2.2.2.1
        have h9 := hD.2.2.2.2.2.2.2.2.2
        clear hD
        have dc0 := hG.cell c0
        have dc1 := hG.cell c1
        have dc2 := hG.cell c2
        have dc3 := hG.cell c3
        generalize hA : fillL y _ _ = A at hK ⊢
        simp only [fillL, Act.put, List.setIfInBounds_toArray, List.set_cons_zero, List.set_cons_succ, List.getD_cons_zero, List.getD_cons_succ, Is] at hA
        subst hA
        simp only [h0, h1, h2, h3, h4, h5, h6, h7, h8, h9] at hK ⊢
        clear h0 h1 h2 h3 h4 h5 h6 h7 h8 h9
        refine ite_yes (by rfl) ?_
        go_simp
        exact hK _ _ _ rfl (Grew.refl _) rfl
      refine ⟨?_, ?_⟩
      · intro y w2 hG hD K hK
        simp only [depsH, List.getD_cons_zero, List.getD_cons_succ, Is, and_true] at hD
        have h0 := hD.1
        have h1 := hD.2.1
        have h2 := hD.2.2.1
        have h3 := hD.2.2.2.1
        have h4 := hD.2.2.2.2.1
        have h5 := hD.2.2.2.2.2.1
        have h6 := hD.2.2.2.2.2.2.1
        have h7 := hD.2.2.2.2.2.2.2.1
        have h8 := hD.2.2.2.2.2.2.2.2
        clear hD
        generalize hA : fillL y _ _ = A at hK ⊢
        simp only [fillL, Act.put, List.setIfInBounds_toArray, List.set_cons_zero, List.set_cons_succ, List.getD_cons_zero, List.getD_cons_succ, Is] at hA
        subst hA
        simp only [h0, h1, h2, h3, h4, h5, h6, h7, h8] at hK ⊢
        clear h0 h1 h2 h3 h4 h5 h6 h7 h8
        refine ite_yes (by rfl) ?_
        go_simp
        exact hK _ _ _ rfl (Grew.refl _) rfl
      refine ⟨?_, ?_⟩
      · intro y w2 hG hD K hK
        simp only [depsH, List.getD_cons_zero, List.getD_cons_succ, Is, and_true] at hD
        have h0 := hD.1
        have h1 := hD.2.1
        have h2 := hD.2.2.1
        have h3 := hD.2.2.2.1
        have h4 := hD.2.2.2.2.1
        have h5 := hD.2.2.2.2.2.1
        have h6 := hD.2.2.2.2.2.2.1
        have h7 := hD.2.2.2.2.2.2.2.1
        have h8 := hD.2.2.2.2.2.2.2.2.1
        have h9 := hD.2.2.2.2.2.2.2.2.2.1
        have h10 := hD.2.2.2.2.2.2.2.2.2.2.1
        have h11 := hD.2.2.2.2.2.2.2.2.2.2.2
        clear hD
        generalize hA : fillL y _ _ = A at hK ⊢
        simp only [fillL, Act.put, List.setIfInBounds_toArray, List.set_cons_zero, List.set_cons_succ, List.getD_cons_zero, List.getD_cons_succ, Is] at hA
        subst hA
        simp only [h0, h1, h2, h3, h4, h5, h6, h7, h8, h9, h10, h11] at hK ⊢
        clear h0 h1 h2 h3 h4 h5 h6 h7 h8 h9 h10 h11
        refine ite_yes (by rfl) ?_
        go_simp
        exact hK _ _ _ rfl (Grew.refl _) rfl
      refine ⟨?_, ?_⟩
      · intro y w2 hG hD K hK
        simp only [depsH, List.getD_cons_zero, List.getD_cons_succ, Is, and_true] at hD
        have h0 := hD.1
        have h1 := hD.2.1
        have h2 := hD.2.2.1
        have h3 := hD.2.2.2.1
        have h4 := hD.2.2.2.2.1
        have h5 := hD.2.2.2.2.2.1
        have h6 := hD.2.2.2.2.2.2.1
        have h7 := hD.2.2.2.2.2.2.2.1
        have h8 := hD.2.2.2.2.2.2.2.2
        clear hD
        generalize hA : fillL y _ _ = A at hK ⊢
        simp only [fillL, Act.put, List.setIfInBounds_toArray, List.set_cons_zero, List.set_cons_succ, List.getD_cons_zero, List.getD_cons_succ, Is] at hA
        subst hA
        simp only [h0, h1, h2, h3, h4, h5, h6, h7, h8] at hK ⊢
        clear h0 h1 h2 h3 h4 h5 h6 h7 h8
        refine ite_yes (by rfl) ?_
        go_simp
        exact hK _ _ _ rfl (Grew.refl _) rfl
      refine ⟨?_, ?_⟩
      · intro y w2 hG hD K hK
        simp only [depsH, List.getD_cons_zero, List.getD_cons_succ, Is, and_true] at hD
        have h0 := hD.1
        have h1 := hD.2.1
        have h2 := hD.2.2.1
        have h3 := hD.2.2.2.1
        have h4 := hD.2.2.2.2.1
        have h5 := hD.2.2.2.2.2.1
        have h6 := hD.2.2.2.2.2.2.1
        have h7 := hD.2.2.2.2.2.2.2.1
        have h8 := hD.2.2.2.2.2.2.2.2.1
        have h13 := hD.2.2.2.2.2.2.2.2.2
        clear hD
        have dc0 := hG.cell c0
        have dc1 := hG.cell c1
        have dc2 := hG.cell c2
        have dc3 := hG.cell c3
        generalize hA : fillL y _ _ = A at hK ⊢
        simp only [fillL, Act.put, List.setIfInBounds_toArray, List.set_cons_zero, List.set_cons_succ, List.getD_cons_zero, List.getD_cons_succ, Is] at hA
        subst hA
        simp only [h0, h1, h2, h3, h4, h5, h6, h7, h8, h13] at hK ⊢
        clear h0 h1 h2 h3 h4 h5 h6 h7 h8 h13
        refine ite_yes (by rfl) ?_
        go_simp
        exact hK _ _ _ rfl (Grew.refl _) rfl
      refine ⟨?_, ?_⟩
      · intro y w2 hG hD K hK
        simp only [depsH, List.getD_cons_zero, List.getD_cons_succ, Is, and_true] at hD
        have h0 := hD.1
        have h1 := hD.2.1
        have h2 := hD.2.2.1
        have h3 := hD.2.2.2.1
        have h4 := hD.2.2.2.2.1
        have h5 := hD.2.2.2.2.2.1
        have h6 := hD.2.2.2.2.2.2.1
        have h7 := hD.2.2.2.2.2.2.2.1
        have h8 := hD.2.2.2.2.2.2.2.2.1
        have h13 := hD.2.2.2.2.2.2.2.2.2.1
        have h14 := hD.2.2.2.2.2.2.2.2.2.2
        clear hD
        generalize hA : fillL y _ _ = A at hK ⊢
        simp only [fillL, Act.put, List.setIfInBounds_toArray, List.set_cons_zero, List.set_cons_succ, List.getD_cons_zero, List.getD_cons_succ, Is] at hA
        subst hA
        simp only [h0, h1, h2, h3, h4, h5, h6, h7, h8, h13, h14] at hK ⊢
        clear h0 h1 h2 h3 h4 h5 h6 h7 h8 h13 h14
        refine ite_yes (by rfl) ?_
        go_simp
        refine (ahead_any typ w2).mono ?_
        rintro r w3 ⟨rfl, hg3⟩
        exact hK _ _ _ rfl hg3 rfl
      refine ⟨?_, ?_⟩
      · intro y w2 hG hD K hK
        simp only [depsH, List.getD_cons_zero, List.getD_cons_succ, Is, and_true] at hD
        have h0 := hD.1
        have h1 := hD.2.1
        have h2 := hD.2.2.1
        have h3 := hD.2.2.2.1
        have h4 := hD.2.2.2.2.1
        have h5 := hD.2.2.2.2.2.1
        have h6 := hD.2.2.2.2.2.2.1
        have h7 := hD.2.2.2.2.2.2.2.1
        have h8 := hD.2.2.2.2.2.2.2.2
        clear hD
        generalize hA : fillL y _ _ = A at hK ⊢
        simp only [fillL, Act.put, List.setIfInBounds_toArray, List.set_cons_zero, List.set_cons_succ, List.getD_cons_zero, List.getD_cons_succ, Is] at hA
        subst hA
        simp only [h0, h1, h2, h3, h4, h5, h6, h7, h8] at hK ⊢
        clear h0 h1 h2 h3 h4 h5 h6 h7 h8
        refine ite_yes (by rfl) ?_
        go_simp
        exact hK _ _ _ rfl (Grew.refl _) rfl
      refine ⟨?_, ?_⟩
      · intro y w2 hG hD K hK
        simp only [depsH, List.getD_cons_zero, List.getD_cons_succ, Is, and_true] at hD
        have h0 := hD.1
        have h1 := hD.2.1
        have h2 := hD.2.2.1
        have h3 := hD.2.2.2.1
        have h4 := hD.2.2.2.2.1
        have h5 := hD.2.2.2.2.2.1
        have h6 := hD.2.2.2.2.2.2.1
        have h7 := hD.2.2.2.2.2.2.2.1
        have h8 := hD.2.2.2.2.2.2.2.2.1
        have h16 := hD.2.2.2.2.2.2.2.2.2
        clear hD
        have dc0 := hG.cell c0
        have dc1 := hG.cell c1
        have dc2 := hG.cell c2
        have dc3 := hG.cell c3
        generalize hA : fillL y _ _ = A at hK ⊢
        simp only [fillL, Act.put, List.setIfInBounds_toArray, List.set_cons_zero, List.set_cons_succ, List.getD_cons_zero, List.getD_cons_succ, Is] at hA
        subst hA
        simp only [h0, h1, h2, h3, h4, h5, h6, h7, h8, h16] at hK ⊢
        clear h0 h1 h2 h3 h4 h5 h6 h7 h8 h16
        refine ite_yes (by rfl) ?_
        go_simp
        exact hK _ _ _ rfl (Grew.refl _) rfl
      refine ⟨?_, ?_⟩
      · intro y w2 hG hD K hK
        simp only [depsH, List.getD_cons_zero, List.getD_cons_succ, Is, and_true] at hD
        have h0 := hD.1
        have h1 := hD.2.1
        have h2 := hD.2.2.1
        have h3 := hD.2.2.2.1
        have h4 := hD.2.2.2.2.1
        have h5 := hD.2.2.2.2.2.1
        have h6 := hD.2.2.2.2.2.2.1
        have h7 := hD.2.2.2.2.2.2.2.1
        have h8 := hD.2.2.2.2.2.2.2.2.1
        have h13 := hD.2.2.2.2.2.2.2.2.2.1
        have h14 := hD.2.2.2.2.2.2.2.2.2.2.1
        have h15 := hD.2.2.2.2.2.2.2.2.2.2.2.1
        have h16 := hD.2.2.2.2.2.2.2.2.2.2.2.2.1
        have h17 := hD.2.2.2.2.2.2.2.2.2.2.2.2.2
        clear hD
        generalize hA : fillL y _ _ = A at hK ⊢
        simp only [fillL, Act.put, List.setIfInBounds_toArray, List.set_cons_zero, List.set_cons_succ, List.getD_cons_zero, List.getD_cons_succ, Is] at hA
        subst hA
        simp only [h0, h1, h2, h3, h4, h5, h6, h7, h8, h13, h14, h15, h16, h17] at hK ⊢
        clear h0 h1 h2 h3 h4 h5 h6 h7 h8 h13 h14 h15 h16 h17
        refine ite_yes (by rfl) ?_
        go_simp
        exact hK _ _ _ rfl (Grew.refl _) rfl
      refine ⟨?_, ?_⟩
      · intro y w2 hG hD K hK
        simp only [depsH, List.getD_cons_zero, List.getD_cons_succ, Is, and_true] at hD
        have h0 := hD.1
        have h1 := hD.2.1
        have h2 := hD.2.2.1
        have h3 := hD.2.2.2.1
        have h4 := hD.2.2.2.2.1
        have h5 := hD.2.2.2.2.2.1
        have h6 := hD.2.2.2.2.2.2.1
        have h7 := hD.2.2.2.2.2.2.2.1
        have h8 := hD.2.2.2.2.2.2.2.2.1
        have h9 := hD.2.2.2.2.2.2.2.2.2.1
        have h10 := hD.2.2.2.2.2.2.2.2.2.2.1
        have h11 := hD.2.2.2.2.2.2.2.2.2.2.2.1
        have h12 := hD.2.2.2.2.2.2.2.2.2.2.2.2.1
        have h13 := hD.2.2.2.2.2.2.2.2.2.2.2.2.2.1
        have h14 := hD.2.2.2.2.2.2.2.2.2.2.2.2.2.2.1
        have h15 := hD.2.2.2.2.2.2.2.2.2.2.2.2.2.2.2.1
        have h16 := hD.2.2.2.2.2.2.2.2.2.2.2.2.2.2.2.2.1
        have h17 := hD.2.2.2.2.2.2.2.2.2.2.2.2.2.2.2.2.2.1
        have h18 := hD.2.2.2.2.2.2.2.2.2.2.2.2.2.2.2.2.2.2
        clear hD
        generalize hA : fillL y _ _ = A at hK ⊢
        simp only [fillL, Act.put, List.setIfInBounds_toArray, List.set_cons_zero, List.set_cons_succ, List.getD_cons_zero, List.getD_cons_succ, Is] at hA
        subst hA
        simp only [h0, h1, h2, h3, h4, h5, h6, h7, h8, h9, h10, h11, h12, h13, h14, h15, h16, h17, h18] at hK ⊢
        clear h0 h1 h2 h3 h4 h5 h6 h7 h8 h9 h10 h11 h12 h13 h14 h15 h16 h17 h18
        refine ite_yes (by rfl) ?_
        go_simp
        exact hK _ _ _ rfl (Grew.refl _) rfl
      refine ⟨?_, ?_⟩
      · intro y w2 hG hD K hK
        simp only [depsH, List.getD_cons_zero, List.getD_cons_succ, Is, and_true] at hD
        have h0 := hD.1
        have h1 := hD.2.1
        have h2 := hD.2.2.1
        have h3 := hD.2.2.2.1
        have h4 := hD.2.2.2.2.1
        have h5 := hD.2.2.2.2.2.1
        have h6 := hD.2.2.2.2.2.2.1
        have h7 := hD.2.2.2.2.2.2.2.1
        have h8 := hD.2.2.2.2.2.2.2.2
        clear hD
        generalize hA : fillL y _ _ = A at hK ⊢
        simp only [fillL, Act.put, List.setIfInBounds_toArray, List.set_cons_zero, List.set_cons_succ, List.getD_cons_zero, List.getD_cons_succ, Is] at hA
        subst hA
        simp only [h0, h1, h2, h3, h4, h5, h6, h7, h8] at hK ⊢
        clear h0 h1 h2 h3 h4 h5 h6 h7 h8
        refine ite_yes (by rfl) ?_
        go_simp
        exact hK _ _ _ rfl (Grew.refl _) rfl
      refine ⟨?_, ?_⟩
      · intro y w2 hG hD K hK
        simp only [depsH, List.getD_cons_zero, List.getD_cons_succ, Is, and_true] at hD
        have h0 := hD.1
        have h1 := hD.2.1
        have h2 := hD.2.2.1
        have h3 := hD.2.2.2.1
        have h4 := hD.2.2.2.2.1
        have h5 := hD.2.2.2.2.2.1
        have h6 := hD.2.2.2.2.2.2.1
        have h7 := hD.2.2.2.2.2.2.2.1
        have h8 := hD.2.2.2.2.2.2.2.2.1
        have h9 := hD.2.2.2.2.2.2.2.2.2.1
        have h10 := hD.2.2.2.2.2.2.2.2.2.2.1
        have h11 := hD.2.2.2.2.2.2.2.2.2.2.2.1
        have h12 := hD.2.2.2.2.2.2.2.2.2.2.2.2.1
        have h13 := hD.2.2.2.2.2.2.2.2.2.2.2.2.2.1
        have h14 := hD.2.2.2.2.2.2.2.2.2.2.2.2.2.2.1
        have h15 := hD.2.2.2.2.2.2.2.2.2.2.2.2.2.2.2.1
        have h16 := hD.2.2.2.2.2.2.2.2.2.2.2.2.2.2.2.2.1
        have h17 := hD.2.2.2.2.2.2.2.2.2.2.2.2.2.2.2.2.2.1
        have h18 := hD.2.2.2.2.2.2.2.2.2.2.2.2.2.2.2.2.2.2.1
        have h19 := hD.2.2.2.2.2.2.2.2.2.2.2.2.2.2.2.2.2.2.2.1
        have h20 := hD.2.2.2.2.2.2.2.2.2.2.2.2.2.2.2.2.2.2.2.2
        clear hD
        generalize hA : fillL y _ _ = A at hK ⊢
        simp only [fillL, Act.put, List.setIfInBounds_toArray, List.set_cons_zero, List.set_cons_succ, List.getD_cons_zero, List.getD_cons_succ, Is] at hA
        subst hA
        simp only [h0, h1, h2, h3, h4, h5, h6, h7, h8, h9, h10, h11, h12, h13, h14, h15, h16, h17, h18, h19, h20] at hK ⊢
        clear h0 h1 h2 h3 h4 h5 h6 h7 h8 h9 h10 h11 h12 h13 h14 h15 h16 h17 h18 h19 h20
        refine ite_yes (by rfl) ?_
        go_simp
        exact hK _ _ _ rfl (Grew.refl _) (by first | rfl | exact congrArg Value.bool HBL.out)
      refine ⟨?_, ?_⟩
      · intro y w2 hG hD K hK
        simp only [depsH, List.getD_cons_zero, List.getD_cons_succ, Is, and_true] at hD
        have h0 := hD.1
        have h1 := hD.2.1
        have h2 := hD.2.2.1
        have h3 := hD.2.2.2.1
        have h4 := hD.2.2.2.2.1
        have h5 := hD.2.2.2.2.2.1
        have h6 := hD.2.2.2.2.2.2.1
        have h7 := hD.2.2.2.2.2.2.2.1
        have h8 := hD.2.2.2.2.2.2.2.2.1
        have h9 := hD.2.2.2.2.2.2.2.2.2.1
        have h10 := hD.2.2.2.2.2.2.2.2.2.2.1
        have h11 := hD.2.2.2.2.2.2.2.2.2.2.2.1
        have h12 := hD.2.2.2.2.2.2.2.2.2.2.2.2.1
        have h13 := hD.2.2.2.2.2.2.2.2.2.2.2.2.2.1
        have h14 := hD.2.2.2.2.2.2.2.2.2.2.2.2.2.2.1
        have h15 := hD.2.2.2.2.2.2.2.2.2.2.2.2.2.2.2.1
        have h16 := hD.2.2.2.2.2.2.2.2.2.2.2.2.2.2.2.2.1
        have h17 := hD.2.2.2.2.2.2.2.2.2.2.2.2.2.2.2.2.2.1
        have h18 := hD.2.2.2.2.2.2.2.2.2.2.2.2.2.2.2.2.2.2.1
        have h19 := hD.2.2.2.2.2.2.2.2.2.2.2.2.2.2.2.2.2.2.2.1
        have h20 := hD.2.2.2.2.2.2.2.2.2.2.2.2.2.2.2.2.2.2.2.2.1
        have h21 := hD.2.2.2.2.2.2.2.2.2.2.2.2.2.2.2.2.2.2.2.2.2
        clear hD
        generalize hA : fillL y _ _ = A at hK ⊢
        simp only [fillL, Act.put, List.setIfInBounds_toArray, List.set_cons_zero, List.set_cons_succ, List.getD_cons_zero, List.getD_cons_succ, Is] at hA
        subst hA
        simp only [h0, h1, h2, h3, h4, h5, h6, h7, h8, h9, h10, h11, h12, h13, h14, h15, h16, h17, h18, h19, h20, h21] at hK ⊢
        clear h0 h1 h2 h3 h4 h5 h6 h7 h8 h9 h10 h11 h12 h13 h14 h15 h16 h17 h18 h19 h20 h21
        refine ite_yes (by rfl) ?_
        go_simp
        exact hK _ _ _ rfl (Grew.refl _) rfl
      trivial
    · subst e
      have heq := eql_nil
      subst e2
      skip
      go_wp2_with fail
      refine (HIN.out w2).mono ?_
      rintro r u3 ⟨rfl, hgc⟩
      clear c0 c1 c2 c3
      clear e0 e1 e2 e3 e4 e5
      replace HD := Lib.hid (DocAt.grew HD.out hgc)
      replace HT := Lib.hid (NodeAt.grew hgc HT.out)
      replace HRR := Lib.hid (hgc.heap HRR.out)
      replace HRT := Lib.hid (hgc.heap HRT.out)
      replace HG := Lib.hid (HG.out.trans hgc)
      clear hgc
      have c0 := row_cellT HRR.out 0 _ rfl
      have c1 := row_cellT HRR.out 1 _ rfl
      have c2 := row_cellT HRR.out 2 _ rfl
      have c3 := row_cellT HRR.out 3 _ rfl
      have e0 := row_cellT HRT.out 0 _ rfl
      have e1 := row_cellT HRT.out 1 _ rfl
      have e2 := row_cellT HRT.out 2 _ rfl
      have e3 := row_cellT HRT.out 3 _ rfl
      have e4 := row_cellT HRT.out 4 _ rfl
      have e5 := row_cellT HRT.out 5 _ rfl
      go_wp2_with fail
      refine (HNU.out u3 HD.out hp).mono ?_
      rintro r u4 ⟨rfl, hgc⟩
      clear c0 c1 c2 c3
      clear e0 e1 e2 e3 e4 e5
      replace HD := Lib.hid (DocAt.grew HD.out hgc)
      replace HT := Lib.hid (NodeAt.grew hgc HT.out)
      replace HRR := Lib.hid (hgc.heap HRR.out)
      replace HRT := Lib.hid (hgc.heap HRT.out)
      replace HG := Lib.hid (HG.out.trans hgc)
      clear hgc
      have c0 := row_cellT HRR.out 0 _ rfl
      have c1 := row_cellT HRR.out 1 _ rfl
      have c2 := row_cellT HRR.out 2 _ rfl
      have c3 := row_cellT HRR.out 3 _ rfl
      have e0 := row_cellT HRT.out 0 _ rfl
      have e1 := row_cellT HRT.out 1 _ rfl
      have e2 := row_cellT HRT.out 2 _ rfl
      have e3 := row_cellT HRT.out 3 _ rfl
      have e4 := row_cellT HRT.out 4 _ rfl
      have e5 := row_cellT HRT.out 5 _ rfl
      go_upto_region 11 with fail
      cases ni
      · have HV : Hid (res = false) := by show _ = _; rw [HRT2.out]; rfl
        go_quiet (fail)
        have HGF := Lib.hid (HG.out.trans ((Grew.refl u4).drewN nq))
        go_wp2_with fail
        go_ret
        exact ⟨by rw [HV.out]; rfl, HGF.out⟩
      by_cases hle : nv ≤ pos
      rotate_left
      · have HV : Hid (res = false) := by show _ = _; rw [HRT2.out, decide_eq_false hle]; rfl
        have hgt : pos < nv := by omega
        clear hle
        go_quiet (fail)
        have HGF := Lib.hid (HG.out.trans ((Grew.refl u4).drewN nq))
        go_wp2_with fail
        go_ret
        exact ⟨by rw [HV.out]; rfl, HGF.out⟩
      obtain ⟨hb1, hb2, hb3⟩ := HNB.out rfl
      have hws : IntKind.i64.wrap (pos - nv) = pos - nv := by rw [IntKind.wrap_i64]; omega
      have hwa := HWR.out.1
      have hwb : IntKind.i64.wrap (pos - nv - aheadF typ * wid) = pos - nv - aheadF typ * wid := by have := HWR.out.2; rw [IntKind.wrap_i64]; omega
      have HAT : Hid (0 ≤ pos - nv ∧ pos - nv ≤ 1048576) := ⟨by omega, by omega⟩
      have HPN : Hid (0 ≤ nv) := hb3
      have HLE := Lib.hid hle
      clear hb1 hb2 hb3
      obtain ⟨bl, hbl⟩ : ∃ b, decide (lim ≤ pos - nv - aheadF typ * wid) = b := ⟨_, rfl⟩
      have HBL := Lib.hid hbl
      clear hbl
      have HRB : Hid (res = if bl = true then false else if farT typ = true then lookF d typ pos par wid (pos - nv) t else listF d typ wid (pos - nv) t) := by
        show _ = _
        rw [HRT2.out, decide_eq_true hle, ← HBL.out]
        by_cases hlt : pos - nv - aheadF typ * wid < lim
        · rw [decide_eq_true hlt, decide_eq_false (by omega)]; rfl
        · rw [decide_eq_false hlt, decide_eq_true (by omega)]; rfl
      refine wp_region_tables Grew [[], [0], [0, 1], [0, 1, 2], [0, 1, 2], [0, 1, 2, 4], [0, 1, 2, 3, 4, 5], [0, 1, 2, 3, 4, 5, 6], [0, 1, 2, 3, 4, 5, 6, 7], [0, 1, 2, 3, 4, 5, 6, 7, 8], [0, 1, 2, 3, 4, 5, 6, 7, 8, 9], [0, 1, 2, 3, 4, 5, 6, 7, 8], [0, 1, 2, 3, 4, 5, 6, 7, 8, 9, 10, 11], [0, 1, 2, 3, 4, 5, 6, 7, 8], [0, 1, 2, 3, 4, 5, 6, 7, 8, 13], [0, 1, 2, 3, 4, 5, 6, 7, 8, 13, 14], [0, 1, 2, 3, 4, 5, 6, 7, 8], [0, 1, 2, 3, 4, 5, 6, 7, 8, 16], [0, 1, 2, 3, 4, 5, 6, 7, 8, 13, 14, 15, 16, 17], [0, 1, 2, 3, 4, 5, 6, 7, 8, 9, 10, 11, 12, 13, 14, 15, 16, 17, 18], [0, 1, 2, 3, 4, 5, 6, 7, 8], [0, 1, 2, 3, 4, 5, 6, 7, 8, 9, 10, 11, 12, 13, 14, 15, 16, 17, 18, 19, 20], [0, 1, 2, 3, 4, 5, 6, 7, 8, 9, 10, 11, 12, 13, 14, 15, 16, 17, 18, 19, 20, 21]] [[], [(63, 0)], [(63, 0), (64, 1)], [(63, 0), (64, 1), (65, 2), (67, 4), (68, 5)], [(63, 0), (64, 1), (65, 2), (66, 3)], [(63, 0), (64, 1), (65, 2), (66, 3), (67, 4)], [(63, 0), (64, 1), (65, 2), (66, 3), (67, 4), (68, 5)], [(63, 0), (64, 1), (65, 2), (66, 3), (67, 4), (68, 5), (69, 6)], [(63, 0), (64, 1), (65, 2), (66, 3), (67, 4), (68, 5), (69, 6), (70, 7)], [(63, 0), (64, 1), (65, 2), (66, 3), (67, 4), (68, 5), (69, 6), (70, 7), (71, 8), (74, 11), (76, 13), (77, 14), (78, 15), (79, 16), (80, 17), (81, 18), (83, 20)], [(63, 0), (64, 1), (65, 2), (66, 3), (67, 4), (68, 5), (69, 6), (70, 7), (71, 8), (72, 9), (74, 11), (76, 13), (77, 14), (78, 15), (79, 16), (80, 17), (81, 18), (83, 20)], [(63, 0), (64, 1), (65, 2), (66, 3), (67, 4), (68, 5), (69, 6), (70, 7), (71, 8), (72, 9), (73, 10), (76, 13), (77, 14), (78, 15), (79, 16), (80, 17), (81, 18), (83, 20)], [(63, 0), (64, 1), (65, 2), (66, 3), (67, 4), (68, 5), (69, 6), (70, 7), (71, 8), (72, 9), (73, 10), (74, 11), (76, 13), (77, 14), (78, 15), (79, 16), (80, 17), (81, 18), (83, 20)], [(63, 0), (64, 1), (65, 2), (66, 3), (67, 4), (68, 5), (69, 6), (70, 7), (71, 8), (72, 9), (73, 10), (74, 11), (75, 12), (79, 16), (80, 17), (83, 20)], [(63, 0), (64, 1), (65, 2), (66, 3), (67, 4), (68, 5), (69, 6), (70, 7), (71, 8), (72, 9), (73, 10), (74, 11), (75, 12), (76, 13), (79, 16), (80, 17), (83, 20)], [(63, 0), (64, 1), (65, 2), (66, 3), (67, 4), (68, 5), (69, 6), (70, 7), (71, 8), (72, 9), (73, 10), (74, 11), (75, 12), (76, 13), (77, 14), (79, 16), (80, 17), (83, 20)], [(63, 0), (64, 1), (65, 2), (66, 3), (67, 4), (68, 5), (69, 6), (70, 7), (71, 8), (72, 9), (73, 10), (74, 11), (75, 12), (76, 13), (77, 14), (78, 15), (83, 20)], [(63, 0), (64, 1), (65, 2), (66, 3), (67, 4), (68, 5), (69, 6), (70, 7), (71, 8), (72, 9), (73, 10), (74, 11), (75, 12), (76, 13), (77, 14), (78, 15), (79, 16), (83, 20)], [(63, 0), (64, 1), (65, 2), (66, 3), (67, 4), (68, 5), (69, 6), (70, 7), (71, 8), (72, 9), (73, 10), (74, 11), (75, 12), (76, 13), (77, 14), (78, 15), (79, 16), (80, 17), (83, 20)], [(63, 0), (64, 1), (65, 2), (66, 3), (67, 4), (68, 5), (69, 6), (70, 7), (71, 8), (72, 9), (73, 10), (74, 11), (75, 12), (76, 13), (77, 14), (78, 15), (79, 16), (80, 17), (81, 18), (83, 20)], [(63, 0), (64, 1), (65, 2), (66, 3), (67, 4), (68, 5), (69, 6), (70, 7), (71, 8), (72, 9), (73, 10), (74, 11), (75, 12), (76, 13), (77, 14), (78, 15), (79, 16), (80, 17), (81, 18), (82, 19)], [(63, 0), (64, 1), (65, 2), (66, 3), (67, 4), (68, 5), (69, 6), (70, 7), (71, 8), (72, 9), (73, 10), (74, 11), (75, 12), (76, 13), (77, 14), (78, 15), (79, 16), (80, 17), (81, 18), (82, 19), (83, 20)], [(63, 0), (64, 1), (65, 2), (66, 3), (67, 4), (68, 5), (69, 6), (70, 7), (71, 8), (72, 9), (73, 10), (74, 11), (75, 12), (76, 13), (77, 14), (78, 15), (79, 16), (80, 17), (81, 18), (82, 19), (83, 20), (84, 21)]] [(63, 0), (64, 1), (65, 2), (66, 3), (67, 4), (68, 5), (69, 6), (70, 7), (71, 8), (72, 9), (73, 10), (74, 11), (75, 12), (76, 13), (77, 14), (78, 15), (79, 16), (80, 17), (81, 18), (82, 19), (83, 20), (84, 21), (85, 22)]
        [Is (.bool true), Is (.bool false), Is (.bool false), Is (.int .i64 nv), Is (.pointer (some ⟨pr, 0, none⟩)), Is (.int .i64 pos), Is (.bool false), Is (.bool false), Is (.bool false), Is (.pointer (some ⟨pr, 0, none⟩)), Is (.int .i64 pos), Is (.int .i64 nv), Is (.int .i64 (pos - nv)), Is (.pointer (some ⟨pr, 2, none⟩)), Is (.int .i64 typ), Is (.int .i64 (aheadF typ)), Is (.pointer (some ⟨pr, 3, none⟩)), Is (.int .i64 wid), Is (.int .i64 (aheadF typ * wid)), Is (.int .i64 (pos - nv - aheadF typ * wid)), Is (.int .i64 lim), Is (.bool bl), Is (.bool bl)]
        (by kernel_rfl) Grew.trans Grew.refl (Grew.refl _).drew (by kernel_rfl) ⟨is_st, is_st, is_st, is_st, is_st, is_st, is_st, is_st, is_st, is_st, is_st, is_st, is_st, is_st, is_st, is_st, is_st, is_st, is_st, is_st, is_st, is_st, is_st, trivial⟩ ?_ rfl ?_
      rotate_left
      · intro y w2 hG hF
        simp only [factsH, Is, and_true, Nat.reduceAdd] at hF
        have hlast := hF.2.2.2.2.2.2.2.2.2.2.2.2.2.2.2.2.2.2.2.2.2.2
        clear hF
        simp only [fillL, Act.put, List.setIfInBounds_toArray, List.set_cons_zero, List.set_cons_succ, List.getD_cons_zero, List.getD_cons_succ, hlast]
        have hgc := hG
        clear hG hlast
        clear c0 c1 c2 c3
        clear e0 e1 e2 e3 e4 e5
        replace HD := Lib.hid (DocAt.grew HD.out hgc)
        replace HT := Lib.hid (NodeAt.grew hgc HT.out)
        replace HRR := Lib.hid (hgc.heap HRR.out)
        replace HRT := Lib.hid (hgc.heap HRT.out)
        replace HG := Lib.hid (HG.out.trans hgc)
        clear hgc
        have c0 := row_cellT HRR.out 0 _ rfl
        have c1 := row_cellT HRR.out 1 _ rfl
        have c2 := row_cellT HRR.out 2 _ rfl
        have c3 := row_cellT HRR.out 3 _ rfl
        have e0 := row_cellT HRT.out 0 _ rfl
        have e1 := row_cellT HRT.out 1 _ rfl
        have e2 := row_cellT HRT.out 2 _ rfl
        have e3 := row_cellT HRT.out 3 _ rfl
        have e4 := row_cellT HRT.out 4 _ rfl
        have e5 := row_cellT HRT.out 5 _ rfl
        cases bl
        rotate_left
        · have HV : Hid (res = false) := by show _ = _; rw [HRB.out]; rfl
          go_wp2_with fail
          go_ret
          exact ⟨by rw [HV.out]; rfl, HG.out⟩
        have HV : Hid (res = if farT typ = true then lookF d typ pos par wid (pos - nv) t else listF d typ wid (pos - nv) t) := by show _ = _; rw [HRB.out]; rfl
        have hcl := HCALL.out w2 (pos - nv) HD.out HT.out HAT.out
        rw [← HV.out] at hcl
        have HCL := Lib.hid hcl
        clear hcl
        go_wp2_with fail
        refine (HCL.out).mono ?_
        rintro r u5 ⟨rfl, hgc⟩
        replace HD := Lib.hid (DocAt.grew HD.out hgc)
        replace HT := Lib.hid (NodeAt.grew hgc HT.out)
        replace HRR := Lib.hid (hgc.heap HRR.out)
        replace HRT := Lib.hid (hgc.heap HRT.out)
        replace HG := Lib.hid (HG.out.trans hgc)
        clear hgc
        clear c0 c1 c2 c3
        clear e0 e1 e2 e3 e4 e5
        go_wp2_with fail
        go_ret
        exact ⟨rfl, HG.out⟩
      refine ⟨?_, ?_⟩
      · intro y w2 hG hD K hK
        generalize hA : fillL y _ _ = A at hK ⊢
        simp only [fillL, Act.put, List.setIfInBounds_toArray, List.set_cons_zero, List.set_cons_succ, List.getD_cons_zero, List.getD_cons_succ, Is] at hA
        subst hA
        refine ite_yes (by rfl) ?_
        go_simp
        exact hK _ _ _ rfl (Grew.refl _) rfl
      refine ⟨?_, ?_⟩
      · intro y w2 hG hD K hK
        simp only [depsH, List.getD_cons_zero, List.getD_cons_succ, Is, and_true] at hD
        have h0 := hD
        clear hD
        generalize hA : fillL y _ _ = A at hK ⊢
        simp only [fillL, Act.put, List.setIfInBounds_toArray, List.set_cons_zero, List.set_cons_succ, List.getD_cons_zero, List.getD_cons_succ, Is] at hA
        subst hA
        simp only [h0] at hK ⊢
        clear h0
        refine ite_yes (by rfl) ?_
        go_simp
        exact hK _ _ _ rfl (Grew.refl _) rfl
      refine ⟨?_, ?_⟩
      · intro y w2 hG hD K hK
        simp only [depsH, List.getD_cons_zero, List.getD_cons_succ, Is, and_true] at hD
        have h0 := hD.1
        have h1 := hD.2
        clear hD
        generalize hA : fillL y _ _ = A at hK ⊢
        simp only [fillL, Act.put, List.setIfInBounds_toArray, List.set_cons_zero, List.set_cons_succ, List.getD_cons_zero, List.getD_cons_succ, Is] at hA
        subst hA
        simp only [h0, h1] at hK ⊢
        clear h0 h1
        refine ite_yes (by rfl) ?_
        go_simp
        exact hK _ _ _ rfl (Grew.refl _) rfl
      refine ⟨?_, ?_⟩
      · intro y w2 hG hD K hK
        simp only [depsH, List.getD_cons_zero, List.getD_cons_succ, Is, and_true] at hD
        have h0 := hD.1
        have h1 := hD.2.1
        have h2 := hD.2.2
        clear hD
        generalize hA : fillL y _ _ = A at hK ⊢
        simp only [fillL, Act.put, List.setIfInBounds_toArray, List.set_cons_zero, List.set_cons_succ, List.getD_cons_zero, List.getD_cons_succ, Is] at hA
        subst hA
        simp only [h0, h1, h2] at hK ⊢
        clear h0 h1 h2
        refine ite_yes (by rfl) ?_
        go_simp
        exact hK _ _ _ rfl (Grew.refl _) rfl
      refine ⟨?_, ?_⟩
      · intro y w2 hG hD K hK
        simp only [depsH, List.getD_cons_zero, List.getD_cons_succ, Is, and_true] at hD
        have h0 := hD.1
        have h1 := hD.2.1
        have h2 := hD.2.2
        clear hD
        generalize hA : fillL y _ _ = A at hK ⊢
        simp only [fillL, Act.put, List.setIfInBounds_toArray, List.set_cons_zero, List.set_cons_succ, List.getD_cons_zero, List.getD_cons_succ, Is] at hA
        subst hA
        simp only [h0, h1, h2] at hK ⊢
        clear h0 h1 h2
        refine ite_yes (by rfl) ?_
        go_simp
        exact hK _ _ _ rfl (Grew.refl _) rfl
      refine ⟨?_, ?_⟩
      · intro y w2 hG hD K hK
        simp only [depsH, List.getD_cons_zero, List.getD_cons_succ, Is, and_true] at hD
        have h0 := hD.1
        have h1 := hD.2.1
        have h2 := hD.2.2.1
        have h4 := hD.2.2.2
        clear hD
        have dc0 := hG.cell c0
        have dc1 := hG.cell c1
        have dc2 := hG.cell c2
        have dc3 := hG.cell c3
        generalize hA : fillL y _ _ = A at hK ⊢
        simp only [fillL, Act.put, List.setIfInBounds_toArray, List.set_cons_zero, List.set_cons_succ, List.getD_cons_zero, List.getD_cons_succ, Is] at hA
        subst hA
        simp only [h0, h1, h2, h4] at hK ⊢
        clear h0 h1 h2 h4
        refine ite_yes (by rfl) ?_
        go_simp
        exact hK _ _ _ rfl (Grew.refl _) rfl
      refine ⟨?_, ?_⟩
      · intro y w2 hG hD K hK
        simp only [depsH, List.getD_cons_zero, List.getD_cons_succ, Is, and_true] at hD
        have h0 := hD.1
        have h1 := hD.2.1
        have h2 := hD.2.2.1
        have h3 := hD.2.2.2.1
        have h4 := hD.2.2.2.2.1
        have h5 := hD.2.2.2.2.2
        clear hD
        generalize hA : fillL y _ _ = A at hK ⊢
        simp only [fillL, Act.put, List.setIfInBounds_toArray, List.set_cons_zero, List.set_cons_succ, List.getD_cons_zero, List.getD_cons_succ, Is] at hA
        subst hA
        simp only [h0, h1, h2, h3, h4, h5] at hK ⊢
        clear h0 h1 h2 h3 h4 h5
        refine ite_yes (by rfl) ?_
        go_simp
        exact hK _ _ _ rfl (Grew.refl _) (by first | rfl | exact congrArg Value.bool (decide_eq_false (by omega)))
      refine ⟨?_, ?_⟩
      · intro y w2 hG hD K hK
        simp only [depsH, List.getD_cons_zero, List.getD_cons_succ, Is, and_true] at hD
        have h0 := hD.1
        have h1 := hD.2.1
        have h2 := hD.2.2.1
        have h3 := hD.2.2.2.1
        have h4 := hD.2.2.2.2.1
        have h5 := hD.2.2.2.2.2.1
        have h6 := hD.2.2.2.2.2.2
        clear hD
        generalize hA : fillL y _ _ = A at hK ⊢
        simp only [fillL, Act.put, List.setIfInBounds_toArray, List.set_cons_zero, List.set_cons_succ, List.getD_cons_zero, List.getD_cons_succ, Is] at hA
        subst hA
        simp only [h0, h1, h2, h3, h4, h5, h6] at hK ⊢
        clear h0 h1 h2 h3 h4 h5 h6
        refine ite_yes (by rfl) ?_
        go_simp
        exact hK _ _ _ rfl (Grew.refl _) rfl
      refine ⟨?_, ?_⟩
      · intro y w2 hG hD K hK
        simp only [depsH, List.getD_cons_zero, List.getD_cons_succ, Is, and_true] at hD
        have h0 := hD.1
        have h1 := hD.2.1
        have h2 := hD.2.2.1
        have h3 := hD.2.2.2.1
        have h4 := hD.2.2.2.2.1
        have h5 := hD.2.2.2.2.2.1
        have h6 := hD.2.2.2.2.2.2.1
        have h7 := hD.2.2.2.2.2.2.2
        clear hD
        generalize hA : fillL y _ _ = A at hK ⊢
        simp only [fillL, Act.put, List.setIfInBounds_toArray, List.set_cons_zero, List.set_cons_succ, List.getD_cons_zero, List.getD_cons_succ, Is] at hA
        subst hA
        simp only [h0, h1, h2, h3, h4, h5, h6, h7] at hK ⊢
        clear h0 h1 h2 h3 h4 h5 h6 h7
        refine ite_yes (by rfl) ?_
        go_simp
        exact hK _ _ _ rfl (Grew.refl _) rfl
      refine ⟨?_, ?_⟩
      · intro y w2 hG hD K hK
        simp only [depsH, List.getD_cons_zero, List.getD_cons_succ, Is, and_true] at hD
        have h0 := hD.1
        have h1 := hD.2.1
        have h2 := hD.2.2.1
        have h3 := hD.2.2.2.1
        have h4 := hD.2.2.2.2.1
        have h5 := hD.2.2.2.2.2.1
        have h6 := hD.2.2.2.2.2.2.1
        have h7 := hD.2.2.2.2.2.2.2.1
        have h8 := hD.2.2.2.2.2.2.2.2
        clear hD
        generalize hA : fillL y _ _ = A at hK ⊢
        simp only [fillL, Act.put, List.setIfInBounds_toArray, List.set_cons_zero, List.set_cons_succ, List.getD_cons_zero, List.getD_cons_succ, Is] at hA
        subst hA
        simp only [h0, h1, h2, h3, h4, h5, h6, h7, h8] at hK ⊢
        clear h0 h1 h2 h3 h4 h5 h6 h7 h8
        refine ite_yes (by rfl) ?_
        go_simp
        exact hK _ _ _ rfl (Grew.refl _) rfl
      refine ⟨?_, ?_⟩
      · intro y w2 hG hD K hK
        simp only [depsH, List.getD_cons_zero, List.getD_cons_succ, Is, and_true] at hD
        have h0 := hD.1
        have h1 := hD.2.1
        have h2 := hD.2.2.1
        have h3 := hD.2.2.2.1
        have h4 := hD.2.2.2.2.1
        have h5 := hD.2.2.2.2.2.1
        have h6 := hD.2.2.2.2.2.2.1
        have h7 := hD.2.2.2.2.2.2.2.1
        have h8 := hD.2.2.2.2.2.2.2.2.1
        have h9 := hD.2.2.2.2.2.2.2.2.2
        clear hD
        have dc0 := hG.cell c0
        have dc1 := hG.cell c1
        have dc2 := hG.cell c2
        have dc3 := hG.cell c3
        generalize hA : fillL y _ _ = A at hK ⊢
        simp only [fillL, Act.put, List.setIfInBounds_toArray, List.set_cons_zero, List.set_cons_succ, List.getD_cons_zero, List.getD_cons_succ, Is] at hA
        subst hA
        simp only [h0, h1, h2, h3, h4, h5, h6, h7, h8, h9] at hK ⊢
        clear h0 h1 h2 h3 h4 h5 h6 h7 h8 h9
        refine ite_yes (by rfl) ?_
        go_simp
        exact hK _ _ _ rfl (Grew.refl _) rfl
      refine ⟨?_, ?_⟩
      · intro y w2 hG hD K hK
        simp only [depsH, List.getD_cons_zero, List.getD_cons_succ, Is, and_true] at hD
        have h0 := hD.1
        have h1 := hD.2.1
        have h2 := hD.2.2.1
        have h3 := hD.2.2.2.1
        have h4 := hD.2.2.2.2.1
        have h5 := hD.2.2.2.2.2.1
        have h6 := hD.2.2.2.2.2.2.1
        have h7 := hD.2.2.2.2.2.2.2.1
        have h8 := hD.2.2.2.2.2.2.2.2
        clear hD
        generalize hA : fillL y _ _ = A at hK ⊢
        simp only [fillL, Act.put, List.setIfInBounds_toArray, List.set_cons_zero, List.set_cons_succ, List.getD_cons_zero, List.getD_cons_succ, Is] at hA
        subst hA
        simp only [h0, h1, h2, h3, h4, h5, h6, h7, h8] at hK ⊢
        clear h0 h1 h2 h3 h4 h5 h6 h7 h8
        refine ite_yes (by rfl) ?_
        go_simp
        exact hK _ _ _ rfl (Grew.refl _) rfl
      refine ⟨?_, ?_⟩
      · intro y w2 hG hD K hK
        simp only [depsH, List.getD_cons_zero, List.getD_cons_succ, Is, and_true] at hD
        have h0 := hD.1
        have h1 := hD.2.1
        have h2 := hD.2.2.1
        have h3 := hD.2.2.2.1
        have h4 := hD.2.2.2.2.1
        have h5 := hD.2.2.2.2.2.1
        have h6 := hD.2.2.2.2.2.2.1
        have h7 := hD.2.2.2.2.2.2.2.1
        have h8 := hD.2.2.2.2.2.2.2.2.1
        have h9 := hD.2.2.2.2.2.2.2.2.2.1
        have h10 := hD.2.2.2.2.2.2.2.2.2.2.1
        have h11 := hD.2.2.2.2.2.2.2.2.2.2.2
        clear hD
        generalize hA : fillL y _ _ = A at hK ⊢
        simp only [fillL, Act.put, List.setIfInBounds_toArray, List.set_cons_zero, List.set_cons_succ, List.getD_cons_zero, List.getD_cons_succ, Is] at hA
        subst hA
        simp only [h0, h1, h2, h3, h4, h5, h6, h7, h8, h9, h10, h11] at hK ⊢
        clear h0 h1 h2 h3 h4 h5 h6 h7 h8 h9 h10 h11
        refine ite_yes (by rfl) ?_
        go_simp
        exact hK _ _ _ rfl (Grew.refl _) rfl
      refine ⟨?_, ?_⟩
      · intro y w2 hG hD K hK
        simp only [depsH, List.getD_cons_zero, List.getD_cons_succ, Is, and_true] at hD
        have h0 := hD.1
        have h1 := hD.2.1
        have h2 := hD.2.2.1
        have h3 := hD.2.2.2.1
        have h4 := hD.2.2.2.2.1
        have h5 := hD.2.2.2.2.2.1
        have h6 := hD.2.2.2.2.2.2.1
        have h7 := hD.2.2.2.2.2.2.2.1
        have h8 := hD.2.2.2.2.2.2.2.2
        clear hD
        generalize hA : fillL y _ _ = A at hK ⊢
        simp only [fillL, Act.put, List.setIfInBounds_toArray, List.set_cons_zero, List.set_cons_succ, List.getD_cons_zero, List.getD_cons_succ, Is] at hA
        subst hA
        simp only [h0, h1, h2, h3, h4, h5, h6, h7, h8] at hK ⊢
        clear h0 h1 h2 h3 h4 h5 h6 h7 h8
        refine ite_yes (by rfl) ?_
        go_simp
        exact hK _ _ _ rfl (Grew.refl _) rfl
      refine ⟨?_, ?_⟩
      · intro y w2 hG hD K hK
        simp only [depsH, List.getD_cons_zero, List.getD_cons_succ, Is, and_true] at hD
        have h0 := hD.1
        have h1 := hD.2.1
        have h2 := hD.2.2.1
        have h3 := hD.2.2.2.1
        have h4 := hD.2.2.2.2.1
        have h5 := hD.2.2.2.2.2.1
        have h6 := hD.2.2.2.2.2.2.1
        have h7 := hD.2.2.2.2.2.2.2.1
        have h8 := hD.2.2.2.2.2.2.2.2.1
        have h13 := hD.2.2.2.2.2.2.2.2.2
        clear hD
        have dc0 := hG.cell c0
        have dc1 := hG.cell c1
        have dc2 := hG.cell c2
        have dc3 := hG.cell c3
        generalize hA : fillL y _ _ = A at hK ⊢
        simp only [fillL, Act.put, List.setIfInBounds_toArray, List.set_cons_zero, List.set_cons_succ, List.getD_cons_zero, List.getD_cons_succ, Is] at hA
        subst hA
        simp only [h0, h1, h2, h3, h4, h5, h6, h7, h8, h13] at hK ⊢
        clear h0 h1 h2 h3 h4 h5 h6 h7 h8 h13
        refine ite_yes (by rfl) ?_
        go_simp
        exact hK _ _ _ rfl (Grew.refl _) rfl
      refine ⟨?_, ?_⟩
      · intro y w2 hG hD K hK
        simp only [depsH, List.getD_cons_zero, List.getD_cons_succ, Is, and_true] at hD
        have h0 := hD.1
        have h1 := hD.2.1
        have h2 := hD.2.2.1
        have h3 := hD.2.2.2.1
        have h4 := hD.2.2.2.2.1
        have h5 := hD.2.2.2.2.2.1
        have h6 := hD.2.2.2.2.2.2.1
        have h7 := hD.2.2.2.2.2.2.2.1
        have h8 := hD.2.2.2.2.2.2.2.2.1
        have h13 := hD.2.2.2.2.2.2.2.2.2.1
        have h14 := hD.2.2.2.2.2.2.2.2.2.2
        clear hD
        generalize hA : fillL y _ _ = A at hK ⊢
        simp only [fillL, Act.put, List.setIfInBounds_toArray, List.set_cons_zero, List.set_cons_succ, List.getD_cons_zero, List.getD_cons_succ, Is] at hA
        subst hA
        simp only [h0, h1, h2, h3, h4, h5, h6, h7, h8, h13, h14] at hK ⊢
        clear h0 h1 h2 h3 h4 h5 h6 h7 h8 h13 h14
        refine ite_yes (by rfl) ?_
        go_simp
        refine (ahead_any typ w2).mono ?_
        rintro r w3 ⟨rfl, hg3⟩
        exact hK _ _ _ rfl hg3 rfl
      refine ⟨?_, ?_⟩
      · intro y w2 hG hD K hK
        simp only [depsH, List.getD_cons_zero, List.getD_cons_succ, Is, and_true] at hD
        have h0 := hD.1
        have h1 := hD.2.1
        have h2 := hD.2.2.1
        have h3 := hD.2.2.2.1
        have h4 := hD.2.2.2.2.1
        have h5 := hD.2.2.2.2.2.1
        have h6 := hD.2.2.2.2.2.2.1
        have h7 := hD.2.2.2.2.2.2.2.1
        have h8 := hD.2.2.2.2.2.2.2.2
        clear hD
        generalize hA : fillL y _ _ = A at hK ⊢
        simp only [fillL, Act.put, List.setIfInBounds_toArray, List.set_cons_zero, List.set_cons_succ, List.getD_cons_zero, List.getD_cons_succ, Is] at hA
        subst hA
        simp only [h0, h1, h2, h3, h4, h5, h6, h7, h8] at hK ⊢
        clear h0 h1 h2 h3 h4 h5 h6 h7 h8
        refine ite_yes (by rfl) ?_
        go_simp
        exact hK _ _ _ rfl (Grew.refl _) rfl
      refine ⟨?_, ?_⟩
      · intro y w2 hG hD K hK
        simp only [depsH, List.getD_cons_zero, List.getD_cons_succ, Is, and_true] at hD
        have h0 := hD.1
        have h1 := hD.2.1
        have h2 := hD.2.2.1
        have h3 := hD.2.2.2.1
        have h4 := hD.2.2.2.2.1
        have h5 := hD.2.2.2.2.2.1
        have h6 := hD.2.2.2.2.2.2.1
        have h7 := hD.2.2.2.2.2.2.2.1
        have h8 := hD.2.2.2.2.2.2.2.2.1
        have h16 := hD.2.2.2.2.2.2.2.2.2
        clear hD
        have dc0 := hG.cell c0
        have dc1 := hG.cell c1
        have dc2 := hG.cell c2
        have dc3 := hG.cell c3
        generalize hA : fillL y _ _ = A at hK ⊢
        simp only [fillL, Act.put, List.setIfInBounds_toArray, List.set_cons_zero, List.set_cons_succ, List.getD_cons_zero, List.getD_cons_succ, Is] at hA
        subst hA
        simp only [h0, h1, h2, h3, h4, h5, h6, h7, h8, h16] at hK ⊢
        clear h0 h1 h2 h3 h4 h5 h6 h7 h8 h16
        refine ite_yes (by rfl) ?_
        go_simp
        exact hK _ _ _ rfl (Grew.refl _) rfl
      refine ⟨?_, ?_⟩
      · intro y w2 hG hD K hK
        simp only [depsH, List.getD_cons_zero, List.getD_cons_succ, Is, and_true] at hD
        have h0 := hD.1
        have h1 := hD.2.1
        have h2 := hD.2.2.1
        have h3 := hD.2.2.2.1
        have h4 := hD.2.2.2.2.1
        have h5 := hD.2.2.2.2.2.1
        have h6 := hD.2.2.2.2.2.2.1
        have h7 := hD.2.2.2.2.2.2.2.1
        have h8 := hD.2.2.2.2.2.2.2.2.1
        have h13 := hD.2.2.2.2.2.2.2.2.2.1
        have h14 := hD.2.2.2.2.2.2.2.2.2.2.1
        have h15 := hD.2.2.2.2.2.2.2.2.2.2.2.1
        have h16 := hD.2.2.2.2.2.2.2.2.2.2.2.2.1
        have h17 := hD.2.2.2.2.2.2.2.2.2.2.2.2.2
        clear hD
        generalize hA : fillL y _ _ = A at hK ⊢
        simp only [fillL, Act.put, List.setIfInBounds_toArray, List.set_cons_zero, List.set_cons_succ, List.getD_cons_zero, List.getD_cons_succ, Is] at hA
        subst hA
        simp only [h0, h1, h2, h3, h4, h5, h6, h7, h8, h13, h14, h15, h16, h17] at hK ⊢
        clear h0 h1 h2 h3 h4 h5 h6 h7 h8 h13 h14 h15 h16 h17
        refine ite_yes (by rfl) ?_
        go_simp
        exact hK _ _ _ rfl (Grew.refl _) rfl
      refine ⟨?_, ?_⟩
      · intro y w2 hG hD K hK
        simp only [depsH, List.getD_cons_zero, List.getD_cons_succ, Is, and_true] at hD
        have h0 := hD.1
        have h1 := hD.2.1
        have h2 := hD.2.2.1
        have h3 := hD.2.2.2.1
        have h4 := hD.2.2.2.2.1
        have h5 := hD.2.2.2.2.2.1
        have h6 := hD.2.2.2.2.2.2.1
        have h7 := hD.2.2.2.2.2.2.2.1
        have h8 := hD.2.2.2.2.2.2.2.2.1
        have h9 := hD.2.2.2.2.2.2.2.2.2.1
        have h10 := hD.2.2.2.2.2.2.2.2.2.2.1
        have h11 := hD.2.2.2.2.2.2.2.2.2.2.2.1
        have h12 := hD.2.2.2.2.2.2.2.2.2.2.2.2.1
        have h13 := hD.2.2.2.2.2.2.2.2.2.2.2.2.2.1
        have h14 := hD.2.2.2.2.2.2.2.2.2.2.2.2.2.2.1
        have h15 := hD.2.2.2.2.2.2.2.2.2.2.2.2.2.2.2.1
        have h16 := hD.2.2.2.2.2.2.2.2.2.2.2.2.2.2.2.2.1
        have h17 := hD.2.2.2.2.2.2.2.2.2.2.2.2.2.2.2.2.2.1
        have h18 := hD.2.2.2.2.2.2.2.2.2.2.2.2.2.2.2.2.2.2
        clear hD
        generalize hA : fillL y _ _ = A at hK ⊢
        simp only [fillL, Act.put, List.setIfInBounds_toArray, List.set_cons_zero, List.set_cons_succ, List.getD_cons_zero, List.getD_cons_succ, Is] at hA
        subst hA
        simp only [h0, h1, h2, h3, h4, h5, h6, h7, h8, h9, h10, h11, h12, h13, h14, h15, h16, h17, h18] at hK ⊢
        clear h0 h1 h2 h3 h4 h5 h6 h7 h8 h9 h10 h11 h12 h13 h14 h15 h16 h17 h18
        refine ite_yes (by rfl) ?_
        go_simp
        exact hK _ _ _ rfl (Grew.refl _) rfl
      refine ⟨?_, ?_⟩
      · intro y w2 hG hD K hK
        simp only [depsH, List.getD_cons_zero, List.getD_cons_succ, Is, and_true] at hD
        have h0 := hD.1
        have h1 := hD.2.1
        have h2 := hD.2.2.1
        have h3 := hD.2.2.2.1
        have h4 := hD.2.2.2.2.1
        have h5 := hD.2.2.2.2.2.1
        have h6 := hD.2.2.2.2.2.2.1
        have h7 := hD.2.2.2.2.2.2.2.1
        have h8 := hD.2.2.2.2.2.2.2.2
        clear hD
        generalize hA : fillL y _ _ = A at hK ⊢
        simp only [fillL, Act.put, List.setIfInBounds_toArray, List.set_cons_zero, List.set_cons_succ, List.getD_cons_zero, List.getD_cons_succ, Is] at hA
        subst hA
        simp only [h0, h1, h2, h3, h4, h5, h6, h7, h8] at hK ⊢
        clear h0 h1 h2 h3 h4 h5 h6 h7 h8
        refine ite_yes (by rfl) ?_
        go_simp
        exact hK _ _ _ rfl (Grew.refl _) rfl
      refine ⟨?_, ?_⟩
      · intro y w2 hG hD K hK
        simp only [depsH, List.getD_cons_zero, List.getD_cons_succ, Is, and_true] at hD
        have h0 := hD.1
        have h1 := hD.2.1
        have h2 := hD.2.2.1
        have h3 := hD.2.2.2.1
        have h4 := hD.2.2.2.2.1
        have h5 := hD.2.2.2.2.2.1
        have h6 := hD.2.2.2.2.2.2.1
        have h7 := hD.2.2.2.2.2.2.2.1
        have h8 := hD.2.2.2.2.2.2.2.2.1
        have h9 := hD.2.2.2.2.2.2.2.2.2.1
        have h10 := hD.2.2.2.2.2.2.2.2.2.2.1
        have h11 := hD.2.2.2.2.2.2.2.2.2.2.2.1
        have h12 := hD.2.2.2.2.2.2.2.2.2.2.2.2.1
        have h13 := hD.2.2.2.2.2.2.2.2.2.2.2.2.2.1
        have h14 := hD.2.2.2.2.2.2.2.2.2.2.2.2.2.2.1
        have h15 := hD.2.2.2.2.2.2.2.2.2.2.2.2.2.2.2.1
        have h16 := hD.2.2.2.2.2.2.2.2.2.2.2.2.2.2.2.2.1
        have h17 := hD.2.2.2.2.2.2.2.2.2.2.2.2.2.2.2.2.2.1
        have h18 := hD.2.2.2.2.2.2.2.2.2.2.2.2.2.2.2.2.2.2.1
        have h19 := hD.2.2.2.2.2.2.2.2.2.2.2.2.2.2.2.2.2.2.2.1
        have h20 := hD.2.2.2.2.2.2.2.2.2.2.2.2.2.2.2.2.2.2.2.2
        clear hD
        generalize hA : fillL y _ _ = A at hK ⊢
        simp only [fillL, Act.put, List.setIfInBounds_toArray, List.set_cons_zero, List.set_cons_succ, List.getD_cons_zero, List.getD_cons_succ, Is] at hA
        subst hA
        simp only [h0, h1, h2, h3, h4, h5, h6, h7, h8, h9, h10, h11, h12, h13, h14, h15, h16, h17, h18, h19, h20] at hK ⊢
        clear h0 h1 h2 h3 h4 h5 h6 h7 h8 h9 h10 h11 h12 h13 h14 h15 h16 h17 h18 h19 h20
        refine ite_yes (by rfl) ?_
        go_simp
        exact hK _ _ _ rfl (Grew.refl _) (by first | rfl | exact congrArg Value.bool HBL.out)
      refine ⟨?_, ?_⟩
      · intro y w2 hG hD K hK
        simp only [depsH, List.getD_cons_zero, List.getD_cons_succ, Is, and_true] at hD
        have h0 := hD.1
        have h1 := hD.2.1
        have h2 := hD.2.2.1
        have h3 := hD.2.2.2.1
        have h4 := hD.2.2.2.2.1
        have h5 := hD.2.2.2.2.2.1
        have h6 := hD.2.2.2.2.2.2.1
        have h7 := hD.2.2.2.2.2.2.2.1
        have h8 := hD.2.2.2.2.2.2.2.2.1
        have h9 := hD.2.2.2.2.2.2.2.2.2.1
        have h10 := hD.2.2.2.2.2.2.2.2.2.2.1
        have h11 := hD.2.2.2.2.2.2.2.2.2.2.2.1
        have h12 := hD.2.2.2.2.2.2.2.2.2.2.2.2.1
        have h13 := hD.2.2.2.2.2.2.2.2.2.2.2.2.2.1
        have h14 := hD.2.2.2.2.2.2.2.2.2.2.2.2.2.2.1
        have h15 := hD.2.2.2.2.2.2.2.2.2.2.2.2.2.2.2.1
        have h16 := hD.2.2.2.2.2.2.2.2.2.2.2.2.2.2.2.2.1
        have h17 := hD.2.2.2.2.2.2.2.2.2.2.2.2.2.2.2.2.2.1
        have h18 := hD.2.2.2.2.2.2.2.2.2.2.2.2.2.2.2.2.2.2.1
        have h19 := hD.2.2.2.2.2.2.2.2.2.2.2.2.2.2.2.2.2.2.2.1
        have h20 := hD.2.2.2.2.2.2.2.2.2.2.2.2.2.2.2.2.2.2.2.2.1
        have h21 := hD.2.2.2.2.2.2.2.2.2.2.2.2.2.2.2.2.2.2.2.2.2
        clear hD
        generalize hA : fillL y _ _ = A at hK ⊢
        simp only [fillL, Act.put, List.setIfInBounds_toArray, List.set_cons_zero, List.set_cons_succ, List.getD_cons_zero, List.getD_cons_succ, Is] at hA
        subst hA
        simp only [h0, h1, h2, h3, h4, h5, h6, h7, h8, h9, h10, h11, h12, h13, h14, h15, h16, h17, h18, h19, h20, h21] at hK ⊢
        clear h0 h1 h2 h3 h4 h5 h6 h7 h8 h9 h10 h11 h12 h13 h14 h15 h16 h17 h18 h19 h20 h21
        refine ite_yes (by rfl) ?_
        go_simp
        exact hK _ _ _ rfl (Grew.refl _) rfl
      trivial
  refine ⟨?_, ?_⟩
  · intro y w2 hG hD K hK
    simp only [fillL, Act.put, List.setIfInBounds_toArray, List.set_cons_zero, List.set_cons_succ, List.getD_cons_zero, List.getD_cons_succ, Is] at hK ⊢
    refine ite_yes (by rfl) ?_
    go_simp
    refine (looks_any w2).mono ?_
    rintro r w3 ⟨b, rfl, _, hm, hg3⟩
    exact hK _ _ _ rfl hg3 ⟨b, rfl, hm⟩
  refine ⟨?_, ?_⟩
  · intro y w2 hG hD K hK
    simp only [fillL, Act.put, List.setIfInBounds_toArray, List.set_cons_zero, List.set_cons_succ, List.getD_cons_zero, List.getD_cons_succ, Is] at hK ⊢
    refine ite_yes (by rfl) ?_
    go_simp
    exact hK _ _ _ rfl (Grew.refl _) rfl
  refine ⟨?_, ?_⟩
  · intro y w2 hG hD K hK
    simp only [depsH, List.getD_cons_zero, List.getD_cons_succ, Is, and_true] at hD
    have h1 := hD
    clear hD
    have dc0 := hG.cell c0
    have dc1 := hG.cell c1
    have dc2 := hG.cell c2
    have dc3 := hG.cell c3
    simp only [fillL, Act.put, List.setIfInBounds_toArray, List.set_cons_zero, List.set_cons_succ, List.getD_cons_zero, List.getD_cons_succ, Is] at hK ⊢
    simp only [h1] at hK ⊢
    clear h1
    refine ite_yes (by rfl) ?_
    go_simp
    exact hK _ _ _ rfl (Grew.refl _) rfl
  refine ⟨?_, ?_⟩
  · intro y w2 hG hD K hK
    simp only [depsH, List.getD_cons_zero, List.getD_cons_succ, Is, and_true] at hD
    have h0 := hD.1
    have h1 := hD.2.1
    have h2 := hD.2.2
    clear hD
    simp only [fillL, Act.put, List.setIfInBounds_toArray, List.set_cons_zero, List.set_cons_succ, List.getD_cons_zero, List.getD_cons_succ, Is] at hK ⊢
    simp only [h1, h2] at hK ⊢
    clear h1 h2
    refine ite_yes (by rfl) ?_
    obtain ⟨b, eb, hm⟩ := h0
    rw [eb] at hK ⊢
    have hz := zero_look w2
    have hlk := lookI w2 Try.underlying68 Try.underlying3 hz b looksL hm typ
    replace hlk := hlk.trans (congrArg (fun v => Result.ok v w2) HLV.out)
    go_simp
    exact hK _ _ _ rfl (Grew.refl _) rfl
  refine ⟨?_, ?_⟩
  · intro y w2 hG hD K hK
    simp only [depsH, List.getD_cons_zero, List.getD_cons_succ, Is, and_true] at hD
    have h0 := hD.1
    have h1 := hD.2.1
    have h2 := hD.2.2.1
    have h3 := hD.2.2.2
    clear hD
    simp only [fillL, Act.put, List.setIfInBounds_toArray, List.set_cons_zero, List.set_cons_succ, List.getD_cons_zero, List.getD_cons_succ, Is] at hK ⊢
    simp only [h1, h2, h3] at hK ⊢
    clear h1 h2 h3
    refine ite_yes (by rfl) ?_
    go_simp
    exact hK _ _ _ rfl (Grew.refl _) rfl
  trivial
end Go.Proofs.Ytlhliolknaopjaa

/-
  Keys: comparing lists of ints.
-/
namespace Go.Proofs.Ytlhliolknaopjaa
open Go Go.ChangeShapes Go.WideShapes Go.ChangeAt Go.RowKit Go.Joins Go.Deep
set_option linter.unusedVariables false
set_option linter.unusedSimpArgs false

/-- A slice of ints, read. -/
def RowI (w : World) (v : Value) (l : List Int) : Prop :=
  ∃ a c, v = .slice a l.length c ∧ l.length ≤ c ∧ lenok c ∧ (a = none → c = 0) ∧ ∀ (i : Nat) (x : Int), l[i]? = some x → True ∧ ∃ b off, a = some ⟨b, off, none⟩ ∧ w.cell? ⟨b, off + i, none⟩ = some (.int .i64 x)
end Go.Proofs.Ytlhliolknaopjaa

/-
  Trees: whether a node is as its kind requires (such). Conditions: the node lies in memory.
-/
namespace Go.Proofs.Ytlhliolknaopjaa
open Go Go.ChangeShapes Go.WideShapes Go.ChangeAt Go.RowKit Go.Joins Go.Deep
set_option linter.unusedVariables false
set_option linter.unusedSimpArgs false

/-- The program's rule for a node (P6.1 but for a child of Kind -1). -/
def suchB : Tr → Bool
  | .mk k n u s keys l => decide (1 ≤ k ∧ k ≤ 17) && (decide (usesF k = 1) || decide (n = 0)) && (decide (usesF k = 2) || decide (u = 0)) && (decide (usesF k = 4) || decide (s.toList = [])) && (decide (usesF k = 8) || decide (keys.length = 0)) &&
      (!decide (k = 2) || decide (n = 0) || decide (n = 1)) && (!decide (k = 17) || decide (keys.length = l.length)) && (!(decide (k = 15) || decide (k = 16)) || decide (2 ≤ l.length ∧ l.length ≤ 4)) && !(l.any (otherB (partF k)))
end Go.Proofs.Ytlhliolknaopjaa

/-
  Trees: the walk over a tree in preorder, as an iterator (walked, walk). Conditions: the tree lies in a world whose cells are kept; its size is bounded.
-/
namespace Go.Proofs.Ytlhliolknaopjaa
open Go Go.ChangeShapes Go.WideShapes Go.ChangeAt Go.RowKit Go.Joins Go.Deep Go.Shelf
set_option linter.unusedVariables false
set_option linter.unusedSimpArgs false
attribute [local go_sem] Oper.semAt_some

/-- The cells of w hold in w' what they held. -/
def CellsK (w w' : World) : Prop := ∀ (k : Nat) (o : Obj), w.heap[k]? = some o → o.isCells = true → w'.heap[k]? = some o
theorem CellsK.cell {w w' : World} (h : CellsK w w') {a : Addr} {v : Value} (hc : w.cell? a = some v) : w'.cell? a = some v := by
  have : ∃ o, w.heap[a.block]? = some o ∧ o.isCells = true := by
    unfold World.cell? at hc
    cases ho : w.heap[a.block]? with
    | none => simp [ho] at hc
    | some o => exact ⟨o, rfl, by cases o <;> simp_all [Obj.isCells]⟩
  obtain ⟨o, ho, hi⟩ := this
  rw [World.cell?_of_block (w := w) ((h _ o ho hi).trans ho.symm)]
  exact hc
theorem CellsK.of_grew {w w' : World} (h : Grew w w') : CellsK w w' := fun k o ho _ => (h.block k (Array.getElem?_eq_some_iff.1 ho).1).trans ho
section
variable {w w' : World} {v : Value} {vs : List Value}
theorem StrsAt.cells {ks : List ByteArray} (h : StrsAt w v ks) (hg : CellsK w w') : StrsAt w' v ks := by
  obtain ⟨a, c, h1, h2, h3, h4, h5⟩ := h
  refine ⟨a, c, h1, h2, h3, h4, fun i s hs => ?_⟩
  obtain ⟨hz, b, off, e, hc⟩ := h5 i s hs
  exact ⟨hz, b, off, e, hg.cell hc⟩
theorem Cells6.cells {b off : Nat} (h : Cells6 w b off v) (hg : CellsK w w') : Cells6 w' b off v := by
  obtain ⟨c0, c1, c2, c3, c4, c5, e, h0, h1, h2, h3, h4, h5⟩ := h
  exact ⟨c0, c1, c2, c3, c4, c5, e, hg.cell h0, hg.cell h1, hg.cell h2, hg.cell h3, hg.cell h4, hg.cell h5⟩
theorem RowsAt.cells (h : RowsAt w v vs) (hg : CellsK w w') : RowsAt w' v vs := by
  obtain ⟨a, c, h1, h2, h3, h4, h5⟩ := h
  refine ⟨a, c, h1, h2, h3, h4, fun i x hx => ?_⟩
  obtain ⟨b, off, e, hc⟩ := h5 i x hx
  exact ⟨b, off, e, hc.cells hg⟩
mutual
theorem NodeAt.cells (hg : CellsK w w') : ∀ {t : Tr} {v : Value}, NodeAt w t v → NodeAt w' t v
  | .mk k n u s keys l, v, ⟨hb, kv, lv, vs, e, h1, h2, h3⟩ => ⟨hb, kv, lv, vs, e, h1.cells hg, h2.cells hg, KidsAt.cells hg h3⟩
theorem KidsAt.cells (hg : CellsK w w') : ∀ {l : List Tr} {vs : List Value}, KidsAt w l vs → KidsAt w' l vs
  | [], _, h => h
  | t :: r, _, ⟨v, vr, e, h1, h2⟩ => ⟨v, vr, e, NodeAt.cells hg h1, KidsAt.cells hg h2⟩
end
end
/-- What a round keeps: the cells that lay below lo or from hi on. -/
structure KpC (lo hi : Nat) (w w' : World) : Prop where
  size : w.heap.size ≤ w'.heap.size
  same : ∀ (k : Nat) (o : Obj), w.heap[k]? = some o → o.isCells = true → k < lo ∨ hi ≤ k → w'.heap[k]? = some o
theorem KpC.trans {lo hi : Nat} {a b c : World} (h : KpC lo hi a b) (k : KpC lo hi b c) : KpC lo hi a c := ⟨Nat.le_trans h.size k.size, fun i o ho hc hr => k.same i o (h.same i o ho hc hr) hc hr⟩
theorem KpC.of_grew {lo hi : Nat} {a b : World} (h : Grew a b) : KpC lo hi a b := ⟨h.size, fun k o ho hc _ => CellsK.of_grew h k o ho hc⟩
theorem KpC.turn {lo hi : Nat} (W : World) (l : Nat) (o o' : Obj) (h : W.heap[l]? = some o) (ho : o.isCells = false) : KpC lo hi W (W.putObj l o') :=
  ⟨by simp, fun k q hk hc _ => by
    by_cases e : k = l
    · subst e; rw [h] at hk; cases hk; rw [ho] at hc; cases hc
    · exact (World.putObj_heap_other e).trans hk⟩
theorem AbidesFrom.grew {β : Type} {B : Nat} {J : β → World → Prop} (h : AbidesFrom B J) {s : β} {A C : World} (hs : J s A) (hg : Grew A C) : J s C :=
  h s A C none hs ⟨hg.os, hg.tape, hg.output, hg.size, fun k hk _ => hg.block k hk⟩ (fun r e => by cases e)

/-- What a round is handed: a level, a node's value, its tree, in a world. -/
def Visit (P : Tr → Prop) (w0 : World) : Type := { p : Nat × Value × Tr // NodeAt w0 p.2.2 p.2.1 ∧ p.1 ≤ 1099511627776 ∧ P p.2.2 }
def Visit.key {P : Tr → Prop} {w0 : World} (x : Visit P w0) : Nat × Tr := (x.1.1, x.1.2.2)
end Go.Proofs.Ytlhliolknaopjaa

/-
  Trees: Check. Conditions: the tree lies in memory; its size is bounded.
-/
namespace Go.Proofs.Ytlhliolknaopjaa
open Go Go.ChangeShapes Go.WideShapes Go.ChangeAt Go.RowKit Go.Joins Go.Deep Go.Shelf
set_option linter.unusedVariables false
set_option linter.unusedSimpArgs false
attribute [local go_sem] Oper.semAt_some

/-- The first error among the nodes that come, c having come. -/
def checkL (c : Nat) : List (Nat × Tr) → Int
  | [] => 0
  | (b, x) :: r => if 4096 < c + 1 then 5 else if 64 ≤ b then 61 else if suchB x = false then 60 else if keyedE x ≠ 0 then keyedE x else checkL (c + 1) r
theorem kept_cells {W W' : World} {row : Option Nat} (hg : W.grownBy W' row) (hr : ∀ r, row = some r → ∃ o : Obj, W.heap[r]? = some o ∧ o.isCells = false) {k : Nat} {o : Obj} (hk : W.heap[k]? = some o) (ho : o.isCells = true) : W'.heap[k]? = some o := by
  refine (hg.block k (Array.getElem?_eq_some_iff.1 hk).1 (fun e => ?_)).trans hk
  obtain ⟨q, hq, hc⟩ := hr k e.symm
  rw [hk] at hq; cases hq; rw [ho] at hc; cases hc
theorem grew_turn {w W W' : World} {row : Option Nat} {B : Nat} (h : Grew w W) (hg : W.grownBy W' row) (hr : ∀ r, row = some r → B ≤ r) (hB : w.heap.size ≤ B) : Grew w W' :=
  Below.grown h hg h.size (fun k e => Nat.le_trans hB (hr k e))
/-- What holds between two rounds of Check: no error yet, so many nodes. -/
def ChkI (w : World) (ps : List (Nat × Tr)) (W : World) : Prop :=
  W.heap[w.heap.size + 1]? = some (.cells #[.int .i64 0] 39 (0, 0)) ∧ W.heap[w.heap.size + 2]? = some (.cells #[.int .i64 ps.length] 3 (0, 0)) ∧ Grew w W ∧ ∀ rest, checkL 0 (ps ++ rest) = checkL ps.length rest
/-- What holds where a round has left. -/
def ChkX (w : World) (ps : List (Nat × Tr)) (W : World) : Prop :=
  ∃ e : Int, W.heap[w.heap.size + 1]? = some (.cells #[.int .i64 e] 39 (0, 0)) ∧ Grew w W ∧ ∀ rest, checkL 0 (ps ++ rest) = e
theorem ChkI.own (w : World) {B : Nat} (hB : w.heap.size ≤ B) : OwnFrom B (fun (s : List (Visit (fun _ => True) w)) W => ChkI w (s.map Visit.key) W) := by
  rintro s A C row ⟨h1, h2, h3, h4⟩ hg hr
  exact ⟨kept_cells hg (fun r e => (hr r e).2) h1 rfl, kept_cells hg (fun r e => (hr r e).2) h2 rfl, grew_turn h3 hg (fun r e => (hr r e).1) hB, h4⟩
theorem ChkX.own (w : World) {B : Nat} (hB : w.heap.size ≤ B) : OwnFrom B (fun (s : List (Visit (fun _ => True) w)) W => ChkX w (s.map Visit.key) W) := by
  rintro s A C row ⟨e, h1, h3, h4⟩ hg hr
  exact ⟨e, kept_cells hg (fun r e => (hr r e).2) h1 rfl, grew_turn h3 hg (fun r e => (hr r e).1) hB, h4⟩
theorem KpC.setCell {lo hi : Nat} (W : World) (k : Nat) (h1 : lo ≤ k) (h2 : k < hi) (v : Value) : KpC lo hi W (W.setCell ⟨k, 0, none⟩ v) :=
  ⟨by simp [World.setCell], fun i o ho _ hr => (Below.heap_setCell W _ v i (by show i ≠ k; omega)).trans ho⟩
end Go.Proofs.Ytlhliolknaopjaa

/-
  Keys: the sorted tree, plain; rows of one's own under a store; children in another order. Conditions: none.
-/
namespace Go.Proofs.Ytlhliolknaopjaa
open Go Go.ChangeShapes Go.WideShapes Go.ChangeAt Go.RowKit Go.Joins Go.Deep
set_option linter.unusedVariables false
set_option linter.unusedSimpArgs false

/-! ### sorting by key -/
def insP {α : Type} (x : ByteArray × α) : List (ByteArray × α) → List (ByteArray × α)
  | [] => [x]
  | y :: r => if ltS x.1 y.1 = true then x :: y :: r else y :: insP x r
def sortP {α : Type} (l : List (ByteArray × α)) : List (ByteArray × α) := l.foldr insP []
section
variable {α β : Type}
end
mutual
/-- The tree with its maps' entries in the order of their keys. -/
def sortT : Tr → Tr | .mk k n u s keys l => if k = 17 then .mk k n u s ((sortP (keys.zip (sortL l))).map Prod.fst) ((sortP (keys.zip (sortL l))).map Prod.snd) else .mk k n u s keys (sortL l)
def sortL : List Tr → List Tr | [] => [] | t :: r => sortT t :: sortL r
end
theorem set6_flat : ∀ (vs : List Value) (i : Nat), (∀ x ∈ vs, Node6 x) → i < vs.length → ∀ c0 c1 c2 c3 c4 c5 : Value,
    ((((((vs.flatMap cells6).set (i * 6) c0).set (i * 6 + 1) c1).set (i * 6 + 2) c2).set (i * 6 + 3) c3).set (i * 6 + 4) c4).set (i * 6 + 5) c5 = (vs.set i (.agg #[c0, c1, c2, c3, c4, c5])).flatMap cells6
  | [], _, _, h => by simp at h
  | y :: r, i, h6, h => by
    intro c0 c1 c2 c3 c4 c5
    obtain ⟨k, n, u, s, a4, n4, q4, a5, n5, q5, rfl⟩ := h6 y (by simp)
    cases i with
    | zero => simp [cells6]
    | succ i =>
      have ih := set6_flat r i (fun x hx => h6 x (by simp [hx])) (by simpa using h) c0 c1 c2 c3 c4 c5
      simp only [List.flatMap_cons, List.set_cons_succ]
      rw [← ih]
      have e : ∀ (q : Nat), (i + 1) * 6 + q = i * 6 + q + 6 := fun q => by omega
      rw [show (i + 1) * 6 = i * 6 + 6 by omega]
      simp [cells6, Nat.add_assoc, show ∀ q : Nat, i * 6 + (6 + q) = i * 6 + q + 6 from fun q => by omega]
theorem OwnN.stored {w : World} {B g cap n i : Nat} {vs : List Value} (h : OwnN w B (.slice (some ⟨g, 0, none⟩) n cap) vs) (hi : i < vs.length) {x : Value} (hx : Node6 x) {c0 c1 c2 c3 c4 c5 : Value} (e : x = .agg #[c0, c1, c2, c3, c4, c5]) :
    OwnN ((((((w.setCell ⟨g, i * 6, none⟩ c0).setCell ⟨g, i * 6 + 1, none⟩ c1).setCell ⟨g, i * 6 + 2, none⟩ c2).setCell ⟨g, i * 6 + 3, none⟩ c3).setCell ⟨g, i * 6 + 4, none⟩ c4).setCell ⟨g, i * 6 + 5, none⟩ c5) B (.slice (some ⟨g, 0, none⟩) n cap) (vs.set i x) := by
  obtain ⟨hr, h6⟩ := h
  have hn : n = vs.length := by
    obtain ⟨a, c, e, _⟩ := rows_form hr
    injection e
  subst hn
  have q := (((((hr.stored (i * 6) c0).1.stored (i * 6 + 1) c1).1.stored (i * 6 + 2) c2).1.stored (i * 6 + 3) c3).1.stored (i * 6 + 4) c4).1.stored (i * 6 + 5) c5
  rw [set6_flat vs i h6 hi, ← e] at q
  refine ⟨by rw [List.length_set]; exact q.1, fun y hy => ?_⟩
  rcases List.mem_or_eq_of_mem_set hy with hy | rfl
  · exact h6 y hy
  · exact hx
theorem OwnS.stored {w : World} {B g cap n : Nat} {ss : List ByteArray} (h : OwnS w B (.slice (some ⟨g, 0, none⟩) n cap) ss) (i : Nat) (x : ByteArray) :
    OwnS (w.setCell ⟨g, i, none⟩ (.string x)) B (.slice (some ⟨g, 0, none⟩) n cap) (ss.set i x) := by
  have hn : n = ss.length := by
    obtain ⟨a, c, e, _⟩ := rows_form h
    injection e
  subst hn
  have q := (World.ownsRow.stored h i (.string x)).1
  unfold OwnS
  rw [List.length_set, List.map_set]
  exact q
theorem rows_frozen {w : World} {B : Nat} {e : TypeId} {size n g c : Nat} {xs : List Value} (h : w.ownsRow B e size (.slice (some ⟨g, 0, none⟩) n c) n xs) (j : Nat) : w.frozen? ⟨g, j, none⟩ = false := by
  rcases h.2 with ⟨q, _⟩ | ⟨g', cap, cur, q, _, hg, _⟩
  · cases q
  · cases q; exact frozen_of_row w g j cur e hg

/-! ### children in another order -/
section
variable {w : World} {B : Nat}
end
end Go.Proofs.Ytlhliolknaopjaa

/-
  Plain lemma, no program: a region that leaves its order open, each of its operations with a step relation of its own.
-/
namespace Go.Proofs.Ytlhliolknaopjaa
set_option linter.unusedSimpArgs false
set_option linter.unusedVariables false
open Go Go.RowKit
section
variable {P : Program} {ops : Array Oper}
end
end Go.Proofs.Ytlhliolknaopjaa

/-
  Keys: sorting the maps of a tree in place (sorted). Conditions: the tree is one's own and can be sorted.
-/
namespace Go.Proofs.Ytlhliolknaopjaa
open Go Go.ChangeShapes Go.WideShapes Go.ChangeAt Go.RowKit Go.Joins Go.Deep
set_option linter.unusedVariables false
set_option linter.unusedSimpArgs false

/-- The steps of the statement that sorts a child: the call turns the child's blocks, the store the row. -/
def stepS (W B : Nat) (Sx : Nat → Prop) (gL n c q : Nat) (i : Nat) (w w' : World) : Prop :=
  w = w' ∨ (i = 4 ∧ w.heap.size = W ∧ Moved Sx w w' ∧ w.heap.size < w'.heap.size) ∨
  (i = 6 ∧ W < w.heap.size ∧ w.heap.size ≤ w'.heap.size ∧ Moved (fun g => g = gL) w w' ∧ ∃ y, Node6 y ∧ ∀ vs, q < vs.length → OwnN w B (.slice (some ⟨gL, 0, none⟩) n c) vs → OwnN w' B (.slice (some ⟨gL, 0, none⟩) n c) (vs.set q y))
/-- What the call has left: the child sorted, its blocks. -/
def DoneS (W B : Nat) (Sx : Nat → Prop) (gL n c q : Nat) (VV : List Value) (x : Tr) (y : Value) (w : World) : Prop :=
  W < w.heap.size ∧ (∃ Sy, OwnT w B (sortT x) y Sy ∧ ∀ g, Sy g → Sx g ∨ (W ≤ g ∧ g < w.heap.size)) ∧ ∃ z, OwnN w B (.slice (some ⟨gL, 0, none⟩) n c) (VV.set q z)
theorem DoneS.step {W B : Nat} {Sx : Nat → Prop} {gL n c q : Nat} {VV : List Value} {x : Tr} {y : Value} (hq : q < VV.length) (hL : ¬ Sx gL ∧ gL < W) {i : Nat} (hi : i ≠ 4) {w w' : World} (ht : stepS W B Sx gL n c q i w w') (h : DoneS W B Sx gL n c q VV x y w) : DoneS W B Sx gL n c q VV x y w' := by
  rcases ht with rfl | ⟨e, _⟩ | ⟨_, hW, hsz, hm, u, hu, hst⟩
  · exact h
  · exact absurd e hi
  · obtain ⟨h1, ⟨Sy, ho, hs⟩, z, hz⟩ := h
    refine ⟨by omega, ⟨Sy, ho.kept hm (fun g hg e => ?_), fun g hg => (hs g hg).imp id fun h => ⟨h.1, by omega⟩⟩, u, ?_⟩
    · subst e
      rcases hs _ hg with h | h
      · exact hL.1 h
      · omega
    · have := hst _ (by rw [List.length_set]; exact hq) hz
      rwa [List.set_set] at this
/-- A step that keeps the rows as they are or writes them for good. -/
structure MonR (S : Nat → Prop) (P0 P1 Q0 Q1 : World → Prop) (w w' : World) : Prop where
  moved : Moved S w w'
  p1 : P1 w → P1 w'
  p0 : P0 w ∨ P1 w → P0 w' ∨ P1 w'
  q1 : Q1 w → Q1 w'
  q0 : Q0 w ∨ Q1 w → Q0 w' ∨ Q1 w'
theorem MonR.refl {S : Nat → Prop} {P0 P1 Q0 Q1 : World → Prop} (w : World) : MonR S P0 P1 Q0 Q1 w w := ⟨Moved.refl _ _, id, id, id, id⟩
theorem MonR.trans {S : Nat → Prop} {P0 P1 Q0 Q1 : World → Prop} {a b c : World} (h : MonR S P0 P1 Q0 Q1 a b) (k : MonR S P0 P1 Q0 Q1 b c) : MonR S P0 P1 Q0 Q1 a c :=
  ⟨h.moved.trans' k.moved, fun x => k.p1 (h.p1 x), fun x => k.p0 (h.p0 x), fun x => k.q1 (h.q1 x), fun x => k.q0 (h.q0 x)⟩
section
variable {α : Type} {n : Nat} {p : List (Fin n)} {f : Nat → α} {z : α}
end
theorem OwnN.at {w : World} {B g n c : Nat} {vs : List Value} (h : OwnN w B (.slice (some ⟨g, 0, none⟩) n c) vs) {i : Nat} {x : Value} (hx : vs[i]? = some x) : Cells6 w g (i * 6) x := by
  obtain ⟨a, c', e, _, _, _, h1⟩ := h.rows
  injection e with e1 _ _
  obtain ⟨b, off, e2, h2⟩ := h1 i x hx
  rw [← e1] at e2
  injection e2 with e2
  cases e2
  rwa [Nat.zero_add] at h2
theorem OwnN.frozen {w : World} {B g n c : Nat} {vs : List Value} (h : OwnN w B (.slice (some ⟨g, 0, none⟩) n c) vs) (j : Nat) : w.frozen? ⟨g, j, none⟩ = false := by
  have hn : n = vs.length := by
    obtain ⟨a, c, e, _⟩ := rows_form h.1
    injection e
  subst hn
  exact rows_frozen h.1 j
theorem OwnS.at {w : World} {B g n c : Nat} {ss : List ByteArray} (h : OwnS w B (.slice (some ⟨g, 0, none⟩) n c) ss) {i : Nat} {x : ByteArray} (hx : ss[i]? = some x) : w.cell? ⟨g, i, none⟩ = some (.string x) := by
  have := World.ownsRow.cells h (g := g) rfl i (.string x) (by simp [hx])
  rw [add0, Nat.zero_add] at this
  exact this
theorem OwnS.frozen {w : World} {B g n c : Nat} {ss : List ByteArray} (h : OwnS w B (.slice (some ⟨g, 0, none⟩) n c) ss) (j : Nat) : w.frozen? ⟨g, j, none⟩ = false := by
  have hn : n = ss.length := by
    obtain ⟨a, c, e, _⟩ := rows_form h
    injection e
  subst hn
  exact rows_frozen h j
end Go.Proofs.Ytlhliolknaopjaa

/-
  Plain lemma, no program: a region that leaves its order open, one of whose operations writes to memory made here.
-/
namespace Go.Proofs.Ytlhliolknaopjaa
set_option linter.unusedSimpArgs false
set_option linter.unusedVariables false
open Go Go.RowKit
section
variable {P : Program} {ops : Array Oper}
end
end Go.Proofs.Ytlhliolknaopjaa

/-
  Keys: Sorted, and the small functions of the examples. Conditions: the arguments can be read.
-/
namespace Go.Proofs.Ytlhliolknaopjaa
open Go Go.ChangeShapes Go.WideShapes Go.ChangeAt Go.RowKit Go.Joins Go.Deep
set_option linter.unusedVariables false
set_option linter.unusedSimpArgs false

/-- A tree's node, read. -/
def Nd (t : Tr) (v : Value) (w : World) : Prop := NodeAt w t v
theorem Nd.st (t : Tr) : ∀ v w w', Grew w w' → Nd t v w → Nd t v w' := fun _ _ _ hg h => NodeAt.grew hg h
def Ss (l : List ByteArray) (v : Value) (w : World) : Prop := StrsAt w v l
theorem Ss.st (l : List ByteArray) : ∀ v w w', Grew w w' → Ss l v w → Ss l v w' := fun _ _ _ hg h => StrsAt.grew h hg
def Rn (ts : List Tr) (v : Value) (w : World) : Prop := ∃ vs, RowsAt w v vs ∧ KidsAt w ts vs
theorem Rn.st (ts : List Tr) : ∀ v w w', Grew w w' → Rn ts v w → Rn ts v w' := fun _ _ _ hg ⟨vs, h, k⟩ => ⟨vs, h.grew hg, k.grew hg⟩
def Ri (l : List Int) (v : Value) (w : World) : Prop := RowI w v l
theorem RowI.grew {w w' : World} {v : Value} {l : List Int} (h : RowI w v l) (hg : Grew w w') : RowI w' v l := by
  obtain ⟨a, c, h1, h2, h3, h4, h5⟩ := h
  refine ⟨a, c, h1, h2, h3, h4, fun i x hx => ?_⟩
  obtain ⟨_, b, off, e, hc⟩ := h5 i x hx
  exact ⟨trivial, b, off, e, hg.cell hc⟩
theorem Ri.st (l : List Int) : ∀ v w w', Grew w w' → Ri l v w → Ri l v w' := fun _ _ _ hg h => RowI.grew h hg
theorem StrsAt.form {w : World} {v : Value} {l : List ByteArray} (h : StrsAt w v l) : ∃ a c, v = .slice a l.length c := by
  obtain ⟨a, c, e, _⟩ := h; exact ⟨a, c, e⟩
theorem RowsAt.form {w : World} {v : Value} {vs : List Value} (h : RowsAt w v vs) : ∃ a c, v = .slice a vs.length c := by
  obtain ⟨a, c, e, _⟩ := h; exact ⟨a, c, e⟩
theorem StrsAt.nil (w : World) : StrsAt w (.slice none 0 0) [] := ⟨none, 0, rfl, by simp, by unfold lenok; omega, fun _ => rfl, by simp⟩
theorem RowsAt.nil (w : World) : RowsAt w (.slice none 0 0) [] := ⟨none, 0, rfl, by simp, by unfold lenok; omega, fun _ => rfl, by simp⟩
theorem RowI.nil (w : World) : RowI w (.slice none 0 0) [] := ⟨none, 0, rfl, by simp, by unfold lenok; omega, fun _ => rfl, by simp⟩
theorem built_strs (w : World) (l : List ByteArray) (hz : ∀ s ∈ l, lenok s.size) (hl : l.length ≤ 4096) : Ss l (.slice (some ⟨w.heap.size, 0, none⟩) l.length l.length) (w.alloc (.cells (l.map Value.string).toArray 9)) := by
  refine ⟨some ⟨w.heap.size, 0, none⟩, l.length, rfl, Nat.le_refl _, by unfold lenok; omega, fun h => (by cases h), fun i s hs => ⟨hz s (List.mem_of_getElem? hs), w.heap.size, 0, rfl, ?_⟩⟩
  rw [cell_of_row _ _ _ _ _ _ (heap_alloc_new _ _)]
  simp [hs]
theorem built_nodes (w : World) (ts : List Tr) (vs : List Value) (h6 : ∀ x ∈ vs, Node6 x) (hk : KidsAt w ts vs) (hl : vs.length ≤ 4096) : Rn ts (.slice (some ⟨w.heap.size, 0, none⟩) vs.length vs.length) (w.alloc (.cells (vs.flatMap cells6).toArray 27)) := by
  refine ⟨vs, ⟨some ⟨w.heap.size, 0, none⟩, vs.length, rfl, Nat.le_refl _, by unfold lenok; omega, fun h => (by cases h), fun i x hx => ⟨w.heap.size, 0, rfl, ?_⟩⟩, hk.grew ((Grew.refl _).alloc _)⟩
  have hr : ∀ o, (w.alloc (.cells (vs.flatMap cells6).toArray 27)).cell? ⟨w.heap.size, o, none⟩ = (vs.flatMap cells6)[o]? := fun o => by
    rw [cell_of_row _ _ _ _ _ _ (heap_alloc_new _ _)]; simp
  obtain ⟨k, n, u, s, a4, n4, c4, a5, n5, c5, rfl⟩ := h6 x (List.mem_of_getElem? hx)
  refine ⟨_, _, _, _, _, _, rfl, ?_, ?_, ?_, ?_, ?_, ?_⟩ <;> rw [hr, Nat.zero_add]
  · exact flat6_get h6 hx 0 (by decide)
  · exact flat6_get h6 hx 1 (by decide)
  · exact flat6_get h6 hx 2 (by decide)
  · exact flat6_get h6 hx 3 (by decide)
  · exact flat6_get h6 hx 4 (by decide)
  · exact flat6_get h6 hx 5 (by decide)
theorem table_nd {keys : List ByteArray} {l : List Tr} {kv lv : Value} {w : World} (h : Ss keys kv w) (h2 : Rn l lv w) : Nd (.mk 17 0 0 ⟨#[]⟩ keys l) (.agg #[.int .i64 17, .int .i64 0, .int .u64 0, .string ⟨#[]⟩, kv, lv]) w := by
  obtain ⟨vs, h3, h4⟩ := h2
  exact ⟨⟨by unfold i64ok; omega, by unfold i64ok; omega, by unfold u64ok; omega, by unfold lenok; decide⟩, kv, lv, vs, rfl, h, h3, h4⟩
end Go.Proofs.Ytlhliolknaopjaa

/-
  Trees whose memory is no struct variable that still stands at its zero. Conditions: the children's kinds are not 0.
-/
namespace Go.Proofs.Ytlhliolknaopjaa
open Go Go.ChangeShapes Go.WideShapes Go.ChangeAt Go.RowKit Go.Joins Go.Deep
set_option linter.unusedVariables false
set_option linter.unusedSimpArgs false

/-- A node variable at its zero. -/
abbrev ZN : Obj := .cells #[.int .i64 0, .int .i64 0, .int .u64 0, .string ⟨#[]⟩, .slice none 0 0, .slice none 0 0] 27 (0, 0)
/-- All but variables at their zero is as it was. -/
def SameZ (w w' : World) : Prop := ∀ (k : Nat) (o : Obj), w.heap[k]? = some o → o ≠ ZN → w'.heap[k]? = some o
theorem SameZ.refl (w : World) : SameZ w w := fun _ _ h _ => h
theorem SameZ.of_grew {w w' : World} (h : Grew w w') : SameZ w w' := fun _ _ hk _ => h.heap hk
theorem SameZ.trans {a b c : World} (h : SameZ a b) (k : SameZ b c) : SameZ a c := fun i o hi ho => k i o (h i o hi ho) ho
theorem SameZ.told {w w' : World} {g : Nat} (hg : w.heap[g]? = some ZN) (hm : Moved (fun k => k = g) w w') : SameZ w w' := fun k o hk ho => hm.heap hk (fun e => by subst e; rw [hg] at hk; cases hk; exact ho rfl)
/-- A tree that stays whatever is told to variables at their zero. -/
def NdZ (t : Tr) (v : Value) (w : World) : Prop := ∀ w', SameZ w w' → NodeAt w' t v
theorem NdZ.same {t : Tr} {v : Value} {w w' : World} (h : NdZ t v w) (hs : SameZ w w') : NdZ t v w' := fun w2 h2 => h w2 (hs.trans h2)
theorem NdZ.st (t : Tr) : ∀ v w w', Grew w w' → NdZ t v w → NdZ t v w' := fun _ _ _ hg h => h.same (SameZ.of_grew hg)
/-- A node variable made behind w0, at its zero. -/
def NewN (w0 : World) (v : Value) (w : World) : Prop := ∃ g, v = .pointer (some ⟨g, 0, none⟩) ∧ w0.heap.size ≤ g ∧ w.heap[g]? = some ZN
theorem NewN.st (w0 : World) : ∀ v w w', Grew w w' → NewN w0 v w → NewN w0 v w' := fun _ _ _ hg ⟨g, e, h1, h2⟩ => ⟨g, e, h1, hg.heap h2⟩
end Go.Proofs.Ytlhliolknaopjaa

/-
  Denote: list, where says and keys are given. Conditions: the bytes, the tree lie in memory; the tree is small.
-/
namespace Go.Proofs.Ytlhliolknaopjaa
open Go Go.ChangeShapes Go.WideShapes Go.ChangeAt Go.RowKit Go.Joins Go.Deep
set_option linter.unusedVariables false
set_option linter.unusedSimpArgs false

def SaysOn (d : List UInt8) (typ : Int) (t : Tr) : Prop := ∀ (dv : Value) (pos par wid lim : Int) (tv : Value) (w : World), DocAt w dv d → NodeAt w t tv → i64ok pos →
    Calls Try.prog 33 #[dv, .agg #[.int .i64 pos, .int .i64 par, .int .i64 typ, .int .i64 wid], .int .i64 lim, tv] w fun r w' => r = .returned (.bool (saysF d typ pos par wid lim t)) ∧ Grew w w'
def KeysOn (d : List UInt8) (l : List ByteArray) : Prop := ∀ (dv : Value) (first x : Int) (kv : Value) (w : World), DocAt w dv d → StrsAt w kv l → 0 ≤ first ∧ first ≤ 1048576 → isW x = true →
    Calls Try.prog 82 #[dv, .int .i64 first, .int .i64 x, kv] w fun r w' => r = .returned (.bool (keysF d first x l)) ∧ Grew w w'
theorem shape_range (t : Int) : 0 ≤ (shapeF t).2 ∧ (shapeF t).2 ≤ 4 ∧ ((shapeF t).1 = 17 ∨ (shapeF t).1 = 10 → (shapeF t).2 = 0) := by
  have he : 0 ≤ (Ft.elemF t).2.1 ∧ (Ft.elemF t).2.1 ≤ 4 := by
    by_cases h : 0 ≤ t ∧ t ≤ 36
    · obtain ⟨k, rfl⟩ := Int.eq_ofNat_of_zero_le h.1
      have : ∀ k : Fin 37, 0 ≤ (Ft.elemF ((k : Nat) : Int)).2.1 ∧ (Ft.elemF ((k : Nat) : Int)).2.1 ≤ 4 := by decide +kernel
      exact this ⟨k, by omega⟩
    · have h0 : Ft.kindOf t = (0, 0, 0) := by
        unfold Ft.kindOf
        split
        · rfl
        · unfold Ft.kindRow
          split <;> first | rfl | omega
      unfold Ft.elemF
      rw [h0]; decide
  unfold shapeF
  repeat' split
  all_goals (refine ⟨?_, ?_, fun h => ?_⟩ <;> simp only at * <;> omega)
theorem list_form {d : List UInt8} {typ w at_ kd many k n u : Int} {s : ByteArray} {keys : List ByteArray} {l : List Tr} (hsh : shapeF typ = (kd, many)) : listF d typ w at_ (.mk k n u s keys l) =
    (bareF (.mk k n u s (if kd = 17 then [] else keys) []) kd 0 0 EMB && decide (at_ % w = 0) && decide (at_ + l.length * w + (if taggedB kd = true then (l.length : Int) else 0) ≤ d.length) &&
      (if many = 0 then (numF d (at_ - w) w).2 && decide ((numF d (at_ - w) w).1 = l.length) else decide ((l.length : Int) = many)) &&
      (if kd = 17 then decide (0 ≤ at_ - 3 * w) && decide (keys.length = l.length) && keysF d (at_ - 3 * w) w keys else true) && kidsF d typ w at_ l.length 0 l) := by
  unfold listF frontF bareF
  rw [hsh]
  simp only [Tr.kind, Tr.fn, Tr.fu, Tr.fs, Tr.keys, Tr.kids]
  by_cases h17 : kd = 17
  · subst h17
    have h1 : taggedB 17 = true := by decide
    by_cases hm0 : many = 0 <;> simp [h1, hm0, Bool.and_assoc] <;> (try rfl)
  · cases ht : taggedB kd <;> by_cases hm0 : many = 0 <;> simp [h17, ht, hm0, Bool.and_assoc] <;> (try rfl)
end Go.Proofs.Ytlhliolknaopjaa

/-
  Denote: list at a map, where says and keys are given. Conditions: the bytes, the tree lie in memory; the tree is small.
-/
namespace Go.Proofs.Ytlhliolknaopjaa
open Go Go.ChangeShapes Go.WideShapes Go.ChangeAt Go.RowKit Go.Joins Go.Deep
set_option linter.unusedVariables false
set_option linter.unusedSimpArgs false

set_option maxRecDepth 100000 in
set_option maxHeartbeats 4000000 in
theorem list_walkA (d : List UInt8) (typ k n u : Int) (s : ByteArray) (keys : List ByteArray) (l : List Tr) (hl : l.length ≤ 4096) (hkl4 : keys.length ≤ 4096) (hkids : ∀ x ∈ l, ∀ typ', ((shapeF typ).1 = 10 ∨ (shapeF typ).1 = 17 ∨ typ' = (Ft.elemF typ).1) → SaysOn d typ' x) (hkeys : (shapeF typ).1 = 17 → KeysOn d keys) (hcase : (shapeF typ).1 = 17) : ListOn d typ (.mk k n u s keys l) := by
  intro dv pos par wid at_ tv w hD hn ha hw
  simp only [NodeAt] at hn
  obtain ⟨hb, kv, lv, vs, rfl, hks, hrl, hkd⟩ := hn
  have hkl := hkd.length
  have HD := Lib.hid hD
  have HKS := Lib.hid hks
  have HB := Lib.hid hb
  have hdl := hD.2.1
  obtain ⟨da, dc, rfl, hdc⟩ := hD.form
  obtain ⟨a4, c4, rfl, hk1, hk2, hk3⟩ := hks
  have HRL := Lib.hid hrl
  obtain ⟨a5, c5, rfl, hl1, hl2, hl3, hl4⟩ := hrl
  rw [hkl] at HRL hl1 ⊢
  have HKD := Lib.hid hkd
  have HHK := Lib.hid hkids
  have HKY := Lib.hid hkeys
  have HW := Lib.hid hw
  have hlc : (l.length : Int) ≤ c5 := by omega
  clear hD hb hk1 hk2 hk3 hl2 hl3 hl4 hkd hkl hkids hkeys hl1
  have hw1 : 1 ≤ wid ∧ wid ≤ 8 := by rcases isW_cases hw with rfl | rfl | rfl | rfl <;> omega
  have hnw : 0 ≤ (l.length : Int) * wid ∧ (l.length : Int) * wid ≤ 32768 := by
    refine ⟨Int.mul_nonneg (by omega) (by omega), ?_⟩
    have h1 := Int.mul_le_mul (show (l.length : Int) ≤ 4096 by omega) hw1.2 (by omega) (by omega)
    omega
  have HSR := Lib.hid (shape_range typ)
  obtain ⟨q, hq⟩ : ∃ q, shapeF typ = q := ⟨_, rfl⟩
  rw [hq] at HSR
  have hshp := shape_any typ
  rw [hq] at hshp
  have HSP := Lib.hid hshp
  clear hshp
  obtain ⟨kd, many⟩ := q
  simp only at HSR HSP
  obtain ⟨res, hres⟩ : ∃ b, listF d typ wid at_ (.mk k n u s keys l) = b := ⟨_, rfl⟩
  rw [hres]
  have HRES := Lib.hid hres
  clear hres
  rw [list_form hq] at HRES
  have h17 : kd = 17 := by rw [hq] at hcase; exact hcase
  clear hcase
  have HQ := Lib.hid hq
  clear hq
  have HG := Lib.hid (Grew.refl w)
  go_enter Try.func47, Try.ntmps47
  go_upto_region 1 with fail
  obtain ⟨pr, hpr⟩ : ∃ N, w.heap.size = N := ⟨_, rfl⟩
  have HPR := Lib.hid hpr
  have hr1 := heap_alloc_new w (.cells #[.int .i64 pos, .int .i64 par, .int .i64 typ, .int .i64 wid] 35)
  have hga := (Grew.refl w).alloc (.cells #[.int .i64 pos, .int .i64 par, .int .i64 typ, .int .i64 wid] 35)
  have hz1 : (w.alloc (.cells #[.int .i64 pos, .int .i64 par, .int .i64 typ, .int .i64 wid] 35)).heap.size = pr + 1 := by rw [World.size_alloc, hpr]
  generalize (w.alloc (.cells #[.int .i64 pos, .int .i64 par, .int .i64 typ, .int .i64 wid] 35)) = x1 at *
  rw [hpr] at hr1 ⊢
  have hr2 := heap_alloc_new x1 (.cells #[.int .i64 k, .int .i64 n, .int .u64 u, .string s, .slice a4 keys.length c4, .slice a5 l.length c5] 27)
  have hgb := (Grew.refl x1).alloc (.cells #[.int .i64 k, .int .i64 n, .int .u64 u, .string s, .slice a4 keys.length c4, .slice a5 l.length c5] 27)
  generalize (x1.alloc (.cells #[.int .i64 k, .int .i64 n, .int .u64 u, .string s, .slice a4 keys.length c4, .slice a5 l.length c5] 27)) = x2 at *
  rw [hz1] at hr2
  try rw [hz1]
  have HRR := Lib.hid (hgb.heap hr1)
  have HRT := Lib.hid hr2
  replace HG := Lib.hid (hga.trans hgb)
  clear hr1 hr2 hz1 hpr hga hgb
  have c0 := row_cellT HRR.out 0 _ rfl
  have c1 := row_cellT HRR.out 1 _ rfl
  have c2 := row_cellT HRR.out 2 _ rfl
  have c3 := row_cellT HRR.out 3 _ rfl
  have e0 := row_cellT HRT.out 0 _ rfl
  have e1 := row_cellT HRT.out 1 _ rfl
  have e2 := row_cellT HRT.out 2 _ rfl
  have e3 := row_cellT HRT.out 3 _ rfl
  have e4 := row_cellT HRT.out 4 _ rfl
  have e5 := row_cellT HRT.out 5 _ rfl
  go_quiet (fail)
  have hgc := (Grew.refl x2).drewN nq
  obtain ⟨x3, hx3⟩ : ∃ x3, x2.drewN nq = x3 := ⟨_, rfl⟩
  rw [hx3] at hgc ⊢
  clear hx3
  clear c0 c1 c2 c3
  clear e0 e1 e2 e3 e4 e5
  replace HRR := Lib.hid (hgc.heap HRR.out)
  replace HRT := Lib.hid (hgc.heap HRT.out)
  replace HG := Lib.hid (HG.out.trans hgc)
  clear hgc
  have c0 := row_cellT HRR.out 0 _ rfl
  have c1 := row_cellT HRR.out 1 _ rfl
  have c2 := row_cellT HRR.out 2 _ rfl
  have c3 := row_cellT HRR.out 3 _ rfl
  have e0 := row_cellT HRT.out 0 _ rfl
  have e1 := row_cellT HRT.out 1 _ rfl
  have e2 := row_cellT HRT.out 2 _ rfl
  have e3 := row_cellT HRT.out 3 _ rfl
  have e4 := row_cellT HRT.out 4 _ rfl
  have e5 := row_cellT HRT.out 5 _ rfl
  go_wp2_with fail
  refine (HSP.out x3).mono ?_
  rintro r u1 ⟨rfl, hgc⟩
  clear c0 c1 c2 c3
  clear e0 e1 e2 e3 e4 e5
  replace HRR := Lib.hid (hgc.heap HRR.out)
  replace HRT := Lib.hid (hgc.heap HRT.out)
  replace HG := Lib.hid (HG.out.trans hgc)
  clear hgc
  have c0 := row_cellT HRR.out 0 _ rfl
  have c1 := row_cellT HRR.out 1 _ rfl
  have c2 := row_cellT HRR.out 2 _ rfl
  have c3 := row_cellT HRR.out 3 _ rfl
  have e0 := row_cellT HRT.out 0 _ rfl
  have e1 := row_cellT HRT.out 1 _ rfl
  have e2 := row_cellT HRT.out 2 _ rfl
  have e3 := row_cellT HRT.out 3 _ rfl
  have e4 := row_cellT HRT.out 4 _ rfl
  have e5 := row_cellT HRT.out 5 _ rfl
  have hws : IntKind.i64.wrap ((l.length : Int) * wid) = (l.length : Int) * wid := by rw [IntKind.wrap_i64]; omega
  have hwe : IntKind.i64.wrap (at_ + (l.length : Int) * wid) = at_ + (l.length : Int) * wid := by rw [IntKind.wrap_i64]; omega
  have hwt : IntKind.i64.wrap (at_ + (l.length : Int) * wid + l.length) = at_ + (l.length : Int) * wid + l.length := by rw [IntKind.wrap_i64]; omega
  have hwf : IntKind.i64.wrap (at_ - wid) = at_ - wid := by rw [IntKind.wrap_i64]; omega
  have hw3 : IntKind.i64.wrap (3 * wid) = 3 * wid := by rw [IntKind.wrap_i64]; omega
  have hwm3 : IntKind.i64.wrap (at_ - 3 * wid) = at_ - 3 * wid := by rw [IntKind.wrap_i64]; omega
  have ht : Int.tmod at_ wid = at_ % wid := Int.tmod_eq_emod_of_nonneg ha.1
  have hwz : (wid == 0) = false := by rw [beq_eq_false_iff_ne]; omega
  have hm0 : 0 ≤ at_ % wid ∧ at_ % wid < 8 := ⟨Int.emod_nonneg _ (by omega), Int.lt_of_lt_of_le (Int.emod_lt_of_pos _ (by omega)) hw1.2⟩
  have hwm : IntKind.i64.wrap (at_ % wid) = at_ % wid := by rw [IntKind.wrap_i64]; omega
  obtain ⟨md, hmd⟩ : ∃ q, at_ % wid = q := ⟨_, rfl⟩
  rw [hmd] at ht hwm hm0 HRES
  clear hmd
  obtain ⟨K0, hK0⟩ : ∃ b, kidsF d typ wid at_ l.length 0 l = b := ⟨_, rfl⟩
  rw [hK0] at HRES
  have HK0 := Lib.hid hK0
  clear hK0
  obtain rfl : many = 0 := HSR.out.2.2 (.inl h17)
  subst h17
  go_upto_region 5 with fail
  have hf4 := row_frozen HRT.out 4
  go_upto_region 6 with fail
  have hrt2 := heap_setCell_same u1 (pr + 1) 4 _ _ (.slice none 0 0) HRT.out
  have hg2 : Grew w (u1.setCell ⟨pr + 1, 4, none⟩ (.slice none 0 0)) := HG.out.setCell (by show w.heap.size ≤ pr + 1; rw [HPR.out]; omega) _
  have hm2 : Moved (fun g => g = pr + 1) u1 (u1.setCell ⟨pr + 1, 4, none⟩ (.slice none 0 0)) := Moved.setCell (S := fun g => g = pr + 1) (p := ⟨pr + 1, 4, none⟩) (Moved.refl _ u1) (fun _ => rfl) _
  have hrr2 := hm2.heap HRR.out (by omega)
  generalize (u1.setCell ⟨pr + 1, 4, none⟩ (.slice none 0 0)) = u2 at *
  replace HRR := Lib.hid hrr2
  replace HRT := Lib.hid hrt2
  replace HG := Lib.hid hg2
  clear hrt2 hg2 hm2 hrr2 hf4
  clear c0 c1 c2 c3
  clear e0 e1 e2 e3 e4 e5
  have c0 := row_cellT HRR.out 0 _ rfl
  have c1 := row_cellT HRR.out 1 _ rfl
  have c2 := row_cellT HRR.out 2 _ rfl
  have c3 := row_cellT HRR.out 3 _ rfl
  have e0 := row_cellT HRT.out 0 _ rfl
  have e1 := row_cellT HRT.out 1 _ rfl
  have e2 := row_cellT HRT.out 2 _ rfl
  have e3 := row_cellT HRT.out 3 _ rfl
  have e4 := row_cellT HRT.out 4 _ rfl
  have e5 := row_cellT HRT.out 5 _ rfl
  go_upto_region 8 with fail
  have hrp := heap_alloc_new u2 (.cells #[.int .i64 k, .int .i64 n, .int .u64 u, .string s, .slice none 0 0, .slice none 0 0] 27)
  have hgc := (Grew.refl u2).alloc (.cells #[.int .i64 k, .int .i64 n, .int .u64 u, .string s, .slice none 0 0, .slice none 0 0] 27)
  obtain ⟨pp, hpp⟩ : ∃ N, u2.heap.size = N := ⟨_, rfl⟩
  generalize (u2.alloc (.cells #[.int .i64 k, .int .i64 n, .int .u64 u, .string s, .slice none 0 0, .slice none 0 0] 27)) = u3 at *
  rw [hpp] at hrp ⊢
  have HRP := Lib.hid hrp
  clear hrp hpp
  clear c0 c1 c2 c3
  clear e0 e1 e2 e3 e4 e5
  replace HRR := Lib.hid (hgc.heap HRR.out)
  replace HRT := Lib.hid (hgc.heap HRT.out)
  replace HG := Lib.hid (HG.out.trans hgc)
  clear hgc
  have c0 := row_cellT HRR.out 0 _ rfl
  have c1 := row_cellT HRR.out 1 _ rfl
  have c2 := row_cellT HRR.out 2 _ rfl
  have c3 := row_cellT HRR.out 3 _ rfl
  have e0 := row_cellT HRT.out 0 _ rfl
  have e1 := row_cellT HRT.out 1 _ rfl
  have e2 := row_cellT HRT.out 2 _ rfl
  have e3 := row_cellT HRT.out 3 _ rfl
  have e4 := row_cellT HRT.out 4 _ rfl
  have e5 := row_cellT HRT.out 5 _ rfl
  have p0 := row_cellT HRP.out 0 _ rfl
  have p1 := row_cellT HRP.out 1 _ rfl
  have p2 := row_cellT HRP.out 2 _ rfl
  have p3 := row_cellT HRP.out 3 _ rfl
  have p4 := row_cellT HRP.out 4 _ rfl
  have p5 := row_cellT HRP.out 5 _ rfl
  obtain ⟨b0, hb0⟩ : ∃ b, bareF (.mk k n u s [] []) 17 0 0 EMB = b := ⟨_, rfl⟩
  have HB0 := Lib.hid hb0
  clear hb0
  have HRS : Hid (res = (b0 && decide (md = 0) && decide (at_ + (l.length : Int) * wid + (l.length : Int) ≤ d.length) && ((numF d (at_ - wid) wid).2 && decide ((numF d (at_ - wid) wid).1 = l.length)) && (decide (0 ≤ at_ - 3 * wid) && decide (keys.length = l.length) && keysF d (at_ - 3 * wid) wid keys) && K0)) := by show _ = _; rw [← HRES.out, ← HB0.out]; rfl
  have hnp : NodeAt u3 (.mk k n u s [] []) (.agg #[.int .i64 k, .int .i64 n, .int .u64 u, .string s, .slice none 0 0, .slice none 0 0]) := ⟨HB.out, _, _, [], rfl, StrsAt.nil _, RowsAt.nil _, rfl⟩
  have hh := bare_any _ _ 17 0 0 ⟨#[]⟩ _ hnp
  rw [show bareF (.mk k n u s [] []) 17 0 0 ⟨#[]⟩ = b0 from HB0.out] at hh
  have HH := Lib.hid hh
  clear hh hnp
  go_wp2_with fail
  refine HH.out.mono ?_
  rintro r u4 ⟨rfl, hgc⟩
  clear c0 c1 c2 c3
  clear e0 e1 e2 e3 e4 e5
  clear p0 p1 p2 p3 p4 p5
  replace HRR := Lib.hid (hgc.heap HRR.out)
  replace HRT := Lib.hid (hgc.heap HRT.out)
  replace HG := Lib.hid (HG.out.trans hgc)
  clear hgc
  have c0 := row_cellT HRR.out 0 _ rfl
  have c1 := row_cellT HRR.out 1 _ rfl
  have c2 := row_cellT HRR.out 2 _ rfl
  have c3 := row_cellT HRR.out 3 _ rfl
  have e0 := row_cellT HRT.out 0 _ rfl
  have e1 := row_cellT HRT.out 1 _ rfl
  have e2 := row_cellT HRT.out 2 _ rfl
  have e3 := row_cellT HRT.out 3 _ rfl
  have e4 := row_cellT HRT.out 4 _ rfl
  have e5 := row_cellT HRT.out 5 _ rfl
  cases b0
  · skip
    have HV : Hid (res = false) := by show _ = _; rw [HRS.out]; simp
    go_wp2_with fail
    go_ret
    exact ⟨by rw [HV.out]; rfl, HG.out⟩
  by_cases hmd0 : md = 0
  rotate_left
  · have hbx : (md != 0) = true := by simpa using hmd0
    have HV : Hid (res = false) := by show _ = _; rw [HRS.out]; simp [hmd0]
    go_wp2_with fail
    go_ret
    exact ⟨by rw [HV.out]; rfl, HG.out⟩
  subst hmd0
  by_cases hend : at_ + (l.length : Int) * wid + (l.length : Int) ≤ d.length
  rotate_left
  · have hgt : (d.length : Int) < at_ + (l.length : Int) * wid + (l.length : Int) := by omega
    have HV : Hid (res = false) := by show _ = _; rw [HRS.out]; simp [hend]
    go_wp2_with fail
    go_ret
    exact ⟨by rw [HV.out]; rfl, HG.out⟩
  obtain ⟨nn, hnn⟩ : ∃ q, numF d (at_ - wid) wid = q := ⟨_, rfl⟩
  have hnum := dnum_any d (.slice da d.length dc) (at_ - wid) wid
  rw [hnn] at HRS hnum
  have HNU := Lib.hid hnum
  clear hnn hnum
  obtain ⟨nv, ni⟩ := nn
  simp only at HRS HNU
  go_wp2_with fail
  refine (HNU.out u4 (HD.out.grew HG.out) (by unfold i64ok; omega)).mono ?_
  rintro r u5 ⟨rfl, hgc⟩
  clear c0 c1 c2 c3
  clear e0 e1 e2 e3 e4 e5
  replace HRR := Lib.hid (hgc.heap HRR.out)
  replace HRT := Lib.hid (hgc.heap HRT.out)
  replace HG := Lib.hid (HG.out.trans hgc)
  clear hgc
  have c0 := row_cellT HRR.out 0 _ rfl
  have c1 := row_cellT HRR.out 1 _ rfl
  have c2 := row_cellT HRR.out 2 _ rfl
  have c3 := row_cellT HRR.out 3 _ rfl
  have e0 := row_cellT HRT.out 0 _ rfl
  have e1 := row_cellT HRT.out 1 _ rfl
  have e2 := row_cellT HRT.out 2 _ rfl
  have e3 := row_cellT HRT.out 3 _ rfl
  have e4 := row_cellT HRT.out 4 _ rfl
  have e5 := row_cellT HRT.out 5 _ rfl
  cases ni
  · skip
    have HV : Hid (res = false) := by show _ = _; rw [HRS.out]; simp
    go_wp2_with fail
    go_ret
    exact ⟨by rw [HV.out]; rfl, HG.out⟩
  by_cases hnv : nv = (l.length : Int)
  rotate_left
  · have hbx : (nv != (l.length : Int)) = true := by simpa using hnv
    have HV : Hid (res = false) := by show _ = _; rw [HRS.out]; simp [hnv]
    go_wp2_with fail
    go_ret
    exact ⟨by rw [HV.out]; rfl, HG.out⟩
  have hbx : (nv != (l.length : Int)) = false := by simpa using hnv
  by_cases hf0 : 0 ≤ at_ - 3 * wid
  rotate_left
  · have hlt0 : at_ - 3 * wid < 0 := by omega
    have HV : Hid (res = false) := by show _ = _; rw [HRS.out]; simp [show ¬ 3 * wid ≤ at_ by omega]
    go_wp2_with fail
    go_ret
    exact ⟨by rw [HV.out]; rfl, HG.out⟩
  by_cases hkn : keys.length = l.length
  rotate_left
  · have hbk : ((keys.length : Int) != (l.length : Int)) = true := by simp; omega
    have HV : Hid (res = false) := by show _ = _; rw [HRS.out]; simp [hkn]
    go_wp2_with fail
    go_ret
    exact ⟨by rw [HV.out]; rfl, HG.out⟩
  have hbk : ((keys.length : Int) != (l.length : Int)) = false := by simp; omega
  obtain ⟨kB, hkB⟩ : ∃ b, keysF d (at_ - 3 * wid) wid keys = b := ⟨_, rfl⟩
  have HKB := Lib.hid hkB
  have HRS2 : Hid (res = (kB && K0)) := by show _ = _; rw [HRS.out, hkB]; simp [hnv, hend, hkn, show 3 * wid ≤ at_ by omega]
  clear hkB
  have HKC := Lib.hid (HKY.out (by rw [HQ.out]) (.slice da d.length dc) (at_ - 3 * wid) wid (.slice a4 keys.length c4) u5 (HD.out.grew HG.out) (HKS.out.grew HG.out) ⟨hf0, by omega⟩ HW.out)
  rw [HKB.out] at HKC
  clear hnv hkn
  go_wp2_with fail
  refine HKC.out.mono ?_
  rintro r u6 ⟨rfl, hgc⟩
  clear c0 c1 c2 c3
  clear e0 e1 e2 e3 e4 e5
  replace HRR := Lib.hid (hgc.heap HRR.out)
  replace HRT := Lib.hid (hgc.heap HRT.out)
  replace HG := Lib.hid (HG.out.trans hgc)
  clear hgc
  have c0 := row_cellT HRR.out 0 _ rfl
  have c1 := row_cellT HRR.out 1 _ rfl
  have c2 := row_cellT HRR.out 2 _ rfl
  have c3 := row_cellT HRR.out 3 _ rfl
  have e0 := row_cellT HRT.out 0 _ rfl
  have e1 := row_cellT HRT.out 1 _ rfl
  have e2 := row_cellT HRT.out 2 _ rfl
  have e3 := row_cellT HRT.out 3 _ rfl
  have e4 := row_cellT HRT.out 4 _ rfl
  have e5 := row_cellT HRT.out 5 _ rfl
  cases kB
  · have HV : Hid (res = false) := by show _ = _; rw [HRS2.out]; simp
    go_wp2_with fail
    go_ret
    exact ⟨by rw [HV.out]; rfl, HG.out⟩
  replace HRS2 : Hid (res = K0) := by show _ = _; rw [HRS2.out]; simp
  have hel := Ft.elem_any typ
  obtain ⟨el, hel2⟩ : ∃ e, Ft.elemF typ = e := ⟨_, rfl⟩
  rw [hel2] at hel
  have HEL := Lib.hid hel
  have HEQ := Lib.hid hel2
  clear hel hel2
  obtain ⟨el1, el2, el3⟩ := el
  simp only at HEL
  have HFI : Hid (firstF typ wid at_ = at_ - 3 * wid) := by show _ = _; unfold firstF; rw [HQ.out]; rfl
  have HEO : Hid (∀ i : Nat, elemOf d typ wid at_ l.length i = Ft.unpackF ((d[(at_ + (l.length : Int) * wid + i).toNat]?).getD 0).toNat) := fun i => by unfold elemOf; rw [HQ.out]; rfl
  go_wp2_with fail
  refine (HEL.out _).mono ?_
  rintro r u7 ⟨rfl, hgc⟩
  clear c0 c1 c2 c3
  clear e0 e1 e2 e3 e4 e5
  replace HRR := Lib.hid (hgc.heap HRR.out)
  replace HRT := Lib.hid (hgc.heap HRT.out)
  replace HG := Lib.hid (HG.out.trans hgc)
  clear hgc
  have c0 := row_cellT HRR.out 0 _ rfl
  have c1 := row_cellT HRR.out 1 _ rfl
  have c2 := row_cellT HRR.out 2 _ rfl
  have c3 := row_cellT HRR.out 3 _ rfl
  have e0 := row_cellT HRT.out 0 _ rfl
  have e1 := row_cellT HRT.out 1 _ rfl
  have e2 := row_cellT HRT.out 2 _ rfl
  have e3 := row_cellT HRT.out 3 _ rfl
  have e4 := row_cellT HRT.out 4 _ rfl
  have e5 := row_cellT HRT.out 5 _ rfl
  have HEND : Hid (at_ + (l.length : Int) * wid + (l.length : Int) ≤ d.length) := hend
  go_upto_region 27 with fail
  go_wp2_with fail
  clear c0 c1 c2 c3
  clear e0 e1 e2 e3 e4 e5
  go_loopw [136] (fun i wr => ∃ kk : Nat, kk ≤ l.length ∧ i = .int .i64 kk ∧ Hid (Grew u7 wr ∧ K0 = kidsF d typ wid at_ l.length kk (l.drop kk))) (fun i _ => l.length - (intOf i).toNat)
  case atStart => exact ⟨0, Nat.zero_le _, rfl, by show _ ∧ _; exact ⟨Grew.refl _, by rw [List.drop_zero]; exact HK0.out.symm⟩⟩
  case round =>
    obtain ⟨kk, hkk, rfl, HL⟩ := hrel
    have HGW := Lib.hid (HG.out.trans HL.out.1)
    by_cases hlt : kk < l.length
    rotate_left
    · have ek : kk = l.length := by omega
      have HV : Hid (res = true) := by show _ = _; rw [HRS2.out, HL.out.2, ek, List.drop_length]; rfl
      subst ek
      clear hlt
      go_wp2_with fail
      go_ret
      exact ⟨by rw [HV.out]; rfl, HGW.out⟩
    obtain ⟨x, hx⟩ : ∃ x, l[kk]? = some x := ⟨_, List.getElem?_eq_getElem hlt⟩
    obtain ⟨xv, hxv, hnx⟩ := HKD.out.get hx
    have hxm : x ∈ l := List.mem_of_getElem? hx
    have HDR : Hid (l.drop kk = x :: l.drop (kk + 1)) := by show _ = _; rw [List.drop_eq_getElem_cons hlt]; congr 1; rw [List.getElem?_eq_getElem hlt] at hx; injection hx
    obtain ⟨b, off, rfl, hc6⟩ : ∃ b off, a5 = some ⟨b, off, none⟩ ∧ Cells6 wr b (off + kk * 6) xv := by
      obtain ⟨a, c, e, _, _, _, h⟩ := HRL.out
      injection e with e1 e2 e3
      subst e1
      obtain ⟨b, off, e, h6⟩ := h kk xv hxv
      exact ⟨b, off, e, h6.grew HGW.out⟩
    obtain ⟨xk, xn, xu, xs, xa4, xn4, xc4, xa5, xn5, xc5, rfl⟩ := hnx.node6
    obtain ⟨f0, f1, f2, f3, f4, f5⟩ := hc6.get
    have HNX := Lib.hid (hnx.grew HGW.out)
    have hlti : (kk : Int) < l.length := by omega
    have hkw : 0 ≤ (kk : Int) * wid ∧ (kk : Int) * wid ≤ 32768 := by
      refine ⟨Int.mul_nonneg (by omega) (by omega), ?_⟩
      have h1 := Int.mul_le_mul (show (kk : Int) ≤ 4096 by omega) hw1.2 (by omega) (by omega)
      omega
    have hwk : IntKind.i64.wrap ((kk : Int) * wid) = (kk : Int) * wid := by rw [IntKind.wrap_i64]; omega
    have hwk2 : IntKind.i64.wrap (at_ + (kk : Int) * wid) = at_ + (kk : Int) * wid := by rw [IntKind.wrap_i64]; omega
    have HSX := Lib.hid (HHK.out x hxm)
    clear hc6 hx hxv hnx hxm
    have hix : (at_ + (l.length : Int) * wid + (kk : Int)).toNat < d.length := by have := HEND.out; omega
    have hwx : IntKind.i64.wrap (at_ + (l.length : Int) * wid + (kk : Int)) = at_ + (l.length : Int) * wid + (kk : Int) := by rw [IntKind.wrap_i64]; omega
    have hend2 : at_ + (l.length : Int) * wid + (kk : Int) < d.length := by have := HEND.out; omega
    have hpos2 : 0 ≤ at_ + (l.length : Int) * wid + (kk : Int) := by omega
    obtain ⟨by_, hby⟩ : ∃ b, d[(at_ + (l.length : Int) * wid + (kk : Int)).toNat]? = some b := ⟨_, List.getElem?_eq_getElem hix⟩
    obtain ⟨bl, bo, rfl, hcb⟩ : ∃ bl bo, da = some ⟨bl, bo, none⟩ ∧ w.cell? ⟨bl, bo + (at_ + (l.length : Int) * wid + (kk : Int)).toNat, none⟩ = some (.int .u8 by_.toNat) := by
      obtain ⟨⟨a, c, e, _, _, h⟩, _⟩ := HD.out
      cases e
      obtain ⟨bl, bo, e, hc⟩ := h _ by_ hby
      exact ⟨bl, bo, e, hc⟩
    have hun := Ft.unpack_any by_.toNat
    obtain ⟨un, hun2⟩ : ∃ q, Ft.unpackF by_.toNat = q := ⟨_, rfl⟩
    rw [hun2] at hun
    have HUN := Lib.hid hun
    have HEK : Hid (elemOf d typ wid at_ l.length kk = un) := by show _ = _; rw [HEO.out, hby]; exact hun2
    clear hun hun2 hby
    obtain ⟨own, wide, ue⟩ := un
    simp only at HUN
    go_upto_region 31 with fail
    obtain ⟨px, hpx⟩ : ∃ N, wr.heap.size = N := ⟨_, rfl⟩
    have hrx := heap_alloc_new wr (.cells #[.int .i64 xk, .int .i64 xn, .int .u64 xu, .string xs, .slice xa4 xn4 xc4, .slice xa5 xn5 xc5] 27)
    have hgx := (Grew.refl wr).alloc (.cells #[.int .i64 xk, .int .i64 xn, .int .u64 xu, .string xs, .slice xa4 xn4 xc4, .slice xa5 xn5 xc5] 27)
    have hzx : (wr.alloc (.cells #[.int .i64 xk, .int .i64 xn, .int .u64 xu, .string xs, .slice xa4 xn4 xc4, .slice xa5 xn5 xc5] 27)).heap.size = px + 1 := by rw [World.size_alloc, hpx]
    generalize (wr.alloc (.cells #[.int .i64 xk, .int .i64 xn, .int .u64 xu, .string xs, .slice xa4 xn4 xc4, .slice xa5 xn5 xc5] 27)) = y1 at *
    rw [hpx] at hrx ⊢
    have hry := heap_alloc_new y1 (.cells #[.int .i64 (at_ + (kk : Int) * wid), .int .i64 wid, .int .i64 el1, .int .i64 wid] 35)
    have hgy := (Grew.refl y1).alloc (.cells #[.int .i64 (at_ + (kk : Int) * wid), .int .i64 wid, .int .i64 el1, .int .i64 wid] 35)
    generalize (y1.alloc (.cells #[.int .i64 (at_ + (kk : Int) * wid), .int .i64 wid, .int .i64 el1, .int .i64 wid] 35)) = y2 at *
    rw [hzx] at hry
    try rw [hzx]
    have HRX := Lib.hid (hgy.heap hrx)
    have HRY := Lib.hid hry
    have HGY := Lib.hid (hgx.trans hgy)
    have HPX := Lib.hid hpx
    have hcb2 := (HGW.out.trans HGY.out).cell hcb
    clear hrx hry hgx hgy hzx hpx f0 f1 f2 f3 f4 f5
    go_wp2_with fail
    refine (HUN.out y2 (by exact UInt8.toNat_lt _)).mono ?_
    rintro r y3 ⟨rfl, hg4⟩
    have HG4 := Lib.hid (HGY.out.trans hg4)
    have HRX3 := Lib.hid (hg4.heap HRX.out)
    have HRY3 := Lib.hid (hg4.heap HRY.out)
    clear hg4 hcb2
    by_cases hue : ue = 0
    rotate_left
    · have hbu : (ue != 0) = true := by simpa using hue
      have HV : Hid (res = false) := by show _ = _; rw [HRS2.out, HL.out.2, HDR.out, kidsF, HEK.out, decide_eq_false hue]; rfl
      have HGF := Lib.hid (HGW.out.trans HG4.out)
      clear hue
      go_wp2_with fail
      go_ret
      exact ⟨by rw [HV.out]; rfl, HGF.out⟩
    subst hue
    have fy2 := row_frozen HRY3.out 2
    have fy3 := row_frozen HRY3.out 3
    have cy2 := row_cellT HRY3.out 2 _ rfl
    have cy3 := row_cellT HRY3.out 3 _ rfl
    go_upto_region 36 with fail
    have hry4 := heap_setCell_same _ (px + 1) 3 _ _ (.int .i64 wide) (heap_setCell_same y3 (px + 1) 2 _ _ (.int .i64 own) HRY3.out)
    have hmy : Moved (fun g => g = px + 1) y3 ((y3.setCell ⟨px + 1, 2, none⟩ (.int .i64 own)).setCell ⟨px + 1, 3, none⟩ (.int .i64 wide)) := Moved.setCell (S := fun g => g = px + 1) (p := ⟨px + 1, 3, none⟩) (Moved.setCell (S := fun g => g = px + 1) (p := ⟨px + 1, 2, none⟩) (Moved.refl _ y3) (fun _ => rfl) _) (fun _ => rfl) _
    have hg5 : Grew wr ((y3.setCell ⟨px + 1, 2, none⟩ (.int .i64 own)).setCell ⟨px + 1, 3, none⟩ (.int .i64 wide)) := Moved.fresh HG4.out hmy (fun g e => by have := HPX.out; omega)
    have hrx4 := hmy.heap HRX3.out (by omega)
    generalize ((y3.setCell ⟨px + 1, 2, none⟩ (.int .i64 own)).setCell ⟨px + 1, 3, none⟩ (.int .i64 wide)) = y4 at *
    have HG5 := Lib.hid hg5
    clear hmy hg5 fy2 fy3 cy2 cy3
    have g0 := row_cellT hry4 0 _ rfl
    have g1 := row_cellT hry4 1 _ rfl
    have g2 := row_cellT hry4 2 _ rfl
    have g3 := row_cellT hry4 3 _ rfl
    have f0 := row_cellT hrx4 0 _ rfl
    have f1 := row_cellT hrx4 1 _ rfl
    have f2 := row_cellT hrx4 2 _ rfl
    have f3 := row_cellT hrx4 3 _ rfl
    have f4 := row_cellT hrx4 4 _ rfl
    have f5 := row_cellT hrx4 5 _ rfl
    clear hry4 hrx4
    have hsay := HSX.out own (.inr (.inl (by rw [HQ.out]))) (.slice (some ⟨bl, bo, none⟩) d.length dc) (at_ + (kk : Int) * wid) wid wide (at_ - 3 * wid) _ y4 (HD.out.grew (HGW.out.trans HG5.out)) (HNX.out.grew HG5.out) (by unfold i64ok; omega)
    obtain ⟨sB, hsB⟩ : ∃ b, saysF d own (at_ + (kk : Int) * wid) wid wide (at_ - 3 * wid) x = b := ⟨_, rfl⟩
    rw [hsB] at hsay
    have HKX : Hid (K0 = (sB && kidsF d typ wid at_ l.length (kk + 1) (l.drop (kk + 1)))) := by show _ = _; rw [HL.out.2, HDR.out, kidsF, HEK.out]; simp only; rw [HFI.out, hsB]; rfl
    have HSAY := Lib.hid hsay
    clear hsay hsB
    go_wp2_with fail
    refine HSAY.out.mono ?_
    rintro r y5 ⟨rfl, hg6⟩
    have HG6 := Lib.hid (HG5.out.trans hg6)
    clear hg6 g0 g1 g2 g3 f0 f1 f2 f3 f4 f5
    cases sB
    · have HV : Hid (res = false) := by show _ = _; rw [HRS2.out, HKX.out]; rfl
      have HGF := Lib.hid (HGW.out.trans HG6.out)
      go_wp2_with fail
      go_ret
      exact ⟨by rw [HV.out]; rfl, HGF.out⟩
    · go_wp2_with fail
      go_roundw
      case rel => exact ⟨kk + 1, by omega, by go_num, by
        show _ ∧ _
        exact ⟨HL.out.1.trans HG6.out, by rw [HKX.out]; rfl⟩⟩
      case measure => simp [intOf]; omega
end Go.Proofs.Ytlhliolknaopjaa
