/-
  Texts of the proof, part 5 of 9.
-/
import Derived.Test.YtlhliolknaopjaaPD
import Derived.Test.YtlhliolknaopjaaPC
import Derived.Test.YtlhliolknaopjaaPB
import Derived.RangeFuncNested
import Derived.RangeFuncBound
import Derived.RangeFuncCalls
import Derived.RangeFuncLeaves
import Derived.Shelf.Abstract
import Derived.Shelf.RegionOpen
import Derived.OwnWalkIn
import Derived.TacticsInMore
import Derived.LoopNIn
import Derived.LoopIn

/-
  Denote: says, list given. Conditions: the bytes, the tree lie in memory; the tree is small.
-/
namespace Go.Proofs.Ytlhliolknaopjaa
open Go Go.ChangeShapes Go.WideShapes Go.ChangeAt Go.RowKit Go.Joins Go.Deep
set_option linter.unusedVariables false
set_option linter.unusedSimpArgs false

theorem eqfn_nil (w : World) : (Op.equal 67 .nilFunc .nilFunc).run Try.prog w = .ok true w := by
  have h := Try.underlying67
  unfold Op.equal
  rw [show Op.maxDepth = 9999 + 1 from rfl]
  unfold Op.equalIn
  simp only [Sem.run_bind, run_underlying h, Result.andThen]
  rfl
theorem eqfn_fn (f : Nat) (w : World) : (Op.equal 67 (.func (.func f) #[] #[]) .nilFunc).run Try.prog w = .ok false w := by
  have h := Try.underlying67
  unfold Op.equal
  rw [show Op.maxDepth = 9999 + 1 from rfl]
  unfold Op.equalIn
  simp only [Sem.run_bind, run_underlying h, Result.andThen]
  rfl
theorem eql_nil (w : World) : (binOp .eql 67 .nilFunc .nilFunc).run Try.prog w = .ok (.bool true) w := by
  have h := eqfn_nil w
  simp only [binOp, Sem.run_bind, h, Result.andThen_ok, Sem.run_pure]
theorem eql_fn (f : Nat) (w : World) : (binOp .eql 67 (.func (.func f) #[] #[]) .nilFunc).run Try.prog w = .ok (.bool false) w := by
  have h := eqfn_fn f w
  simp only [binOp, Sem.run_bind, h, Result.andThen_ok, Sem.run_pure]
/-- list at a tree, a type, in whatever world. -/
def ListOn (d : List UInt8) (typ : Int) (t : Tr) : Prop := ∀ (dv : Value) (pos par wid at_ : Int) (tv : Value) (w : World), DocAt w dv d → NodeAt w t tv → 0 ≤ at_ ∧ at_ ≤ 1048576 → isW wid = true →
    Calls Try.prog 47 #[dv, .agg #[.int .i64 pos, .int .i64 par, .int .i64 typ, .int .i64 wid], .int .i64 at_, tv] w fun r w' => r = .returned (.bool (listF d typ wid at_ t)) ∧ Grew w w'
theorem num_bound (d : List UInt8) (at_ x : Int) (hd : d.length ≤ 1048576) (h : (numF d at_ x).2 = true) : 0 ≤ at_ ∧ at_ ≤ 1048576 ∧ 0 ≤ (numF d at_ x).1 := by
  unfold numF at h ⊢
  simp only [Bool.and_eq_true, decide_eq_true_eq] at h
  have hp := loadF_pos d at_ x
  refine ⟨?_, ?_, by simp only; omega⟩
  all_goals
    have h2 := h.1
    unfold loadF at h2
    split at h2
    · rename_i hx
      split at h2
      · cases h2
      · rcases isW_cases hx with rfl | rfl | rfl | rfl <;> omega
    · cases h2
theorem zero_look (w : World) : (zeroValue 67).run Try.prog w = .ok .nilFunc w := by
  have h : (Try.prog.info? 67).map (fun i => i.zero) = some (some .nilFunc) := by kernel_rfl
  cases hi : Try.prog.info? 67 with
  | none => rw [hi] at h; cases h
  | some i => rw [hi] at h; simp at h; simp [zeroValue, typeInfo, hi, h, Result.andThen]
set_option maxRecDepth 100000 in
set_option maxHeartbeats 4000000 in
theorem says_any (d : List UInt8) (typ : Int) (t : Tr) (hl : nearT typ = false → farT typ = false → ListOn d typ t) (hs : t.fs.size ≤ 1000) (dv : Value) (pos par wid lim : Int) (tv : Value) (w : World) (hD : DocAt w dv d) (hn : NodeAt w t tv) (hp : i64ok pos) : Calls Try.prog 33 #[dv, .agg #[.int .i64 pos, .int .i64 par, .int .i64 typ, .int .i64 wid], .int .i64 lim, tv] w fun r w' => r = .returned (.bool (saysF d typ pos par wid lim t)) ∧ Grew w w' := by
  have HD := Lib.hid hD
  have HT := Lib.hid hn
  obtain ⟨da, dc, rfl, _⟩ := hD.form
  obtain ⟨tk, tn, tu, ts, ta4, tn4, tc4, ta5, tn5, tc5, rfl⟩ := hn.node6
  have HDL : Hid (d.length ≤ 1048576) := hD.2.1
  clear hD hn
  have HG := Lib.hid (Grew.refl w)
  obtain ⟨res, hres⟩ : ∃ b, saysF d typ pos par wid lim t = b := ⟨_, rfl⟩
  rw [hres]
  have HRES := Lib.hid hres
  clear hres
  rw [says_eq] at HRES
  go_enter Try.func33, Try.ntmps33
  go_upto_region 1 with fail
  obtain ⟨pr, hpr⟩ : ∃ N, w.heap.size = N := ⟨_, rfl⟩
  have hr1 := heap_alloc_new w (.cells #[.int .i64 pos, .int .i64 par, .int .i64 typ, .int .i64 wid] 35)
  have hga := (Grew.refl w).alloc (.cells #[.int .i64 pos, .int .i64 par, .int .i64 typ, .int .i64 wid] 35)
  have hz1 : (w.alloc (.cells #[.int .i64 pos, .int .i64 par, .int .i64 typ, .int .i64 wid] 35)).heap.size = pr + 1 := by rw [World.size_alloc, hpr]
  generalize (w.alloc (.cells #[.int .i64 pos, .int .i64 par, .int .i64 typ, .int .i64 wid] 35)) = x1 at *
  rw [hpr] at hr1
  try rw [hpr]
  have HRR := Lib.hid hr1
  clear hr1 hpr
  replace HD := Lib.hid (DocAt.grew HD.out hga)
  replace HT := Lib.hid (NodeAt.grew hga HT.out)
  replace HG := Lib.hid (HG.out.trans hga)
  clear hga
  have hr2 := heap_alloc_new x1 (.cells #[.int .i64 tk, .int .i64 tn, .int .u64 tu, .string ts, .slice ta4 tn4 tc4, .slice ta5 tn5 tc5] 27)
  have hga := (Grew.refl x1).alloc (.cells #[.int .i64 tk, .int .i64 tn, .int .u64 tu, .string ts, .slice ta4 tn4 tc4, .slice ta5 tn5 tc5] 27)
  generalize (x1.alloc (.cells #[.int .i64 tk, .int .i64 tn, .int .u64 tu, .string ts, .slice ta4 tn4 tc4, .slice ta5 tn5 tc5] 27)) = x2 at *
  rw [hz1] at hr2
  try rw [hz1]
  have HRT := Lib.hid hr2
  clear hr2 hz1
  replace HD := Lib.hid (DocAt.grew HD.out hga)
  replace HT := Lib.hid (NodeAt.grew hga HT.out)
  replace HRR := Lib.hid (hga.heap HRR.out)
  replace HG := Lib.hid (HG.out.trans hga)
  clear hga
  have c0 := row_cellT HRR.out 0 _ rfl
  have c1 := row_cellT HRR.out 1 _ rfl
  have c2 := row_cellT HRR.out 2 _ rfl
  have c3 := row_cellT HRR.out 3 _ rfl
  have e0 := row_cellT HRT.out 0 _ rfl
  have e1 := row_cellT HRT.out 1 _ rfl
  have e2 := row_cellT HRT.out 2 _ rfl
  have e3 := row_cellT HRT.out 3 _ rfl
  have e4 := row_cellT HRT.out 4 _ rfl
  have e5 := row_cellT HRT.out 5 _ rfl
  go_wp2_with fail
  refine (code_any par x2).mono ?_
  rintro r w1 ⟨⟨cp, rfl⟩, e⟩
  rw [e]
  clear e w1
  go_wp2_with fail
  refine (code_any wid x2).mono ?_
  rintro r w1 ⟨⟨cw, rfl⟩, e⟩
  rw [e]
  clear e w1
  by_cases hwp : isW par = true
  rotate_left
  · have hce : (codeE par != 0) = true := by unfold codeE; rw [if_neg hwp]; decide
    have HV : Hid (res = false) := by show _ = _; rw [← HRES.out, if_pos (by rw [show isW par = false by simpa using hwp]; rfl)]
    clear hwp
    go_wp2_with fail
    go_ret
    exact ⟨by rw [HV.out]; rfl, HG.out⟩
  have hce : codeE par = 0 := by unfold codeE; rw [if_pos hwp]
  rw [hce]
  clear hce
  by_cases hww : isW wid = true
  rotate_left
  · have hce : (codeE wid != 0) = true := by unfold codeE; rw [if_neg hww]; decide
    have HV : Hid (res = false) := by show _ = _; rw [← HRES.out, if_pos (by rw [show isW wid = false by simpa using hww, Bool.and_false]; rfl)]
    clear hww hwp
    go_wp2_with fail
    go_ret
    exact ⟨by rw [HV.out]; rfl, HG.out⟩
  have hce : codeE wid = 0 := by unfold codeE; rw [if_pos hww]
  rw [hce]
  clear hce
  have HWP := Lib.hid hwp
  have HWW := Lib.hid hww
  clear hwp hww
  go_wp2_with fail
  obtain ⟨lg, hlg⟩ : ∃ b, Ft.legalB typ = b := ⟨_, rfl⟩
  have hh := Ft.legal_any typ x2
  rw [hlg] at hh
  have HLG := Lib.hid hlg
  clear hlg
  refine hh.mono ?_
  clear hh
  rintro r u1 ⟨rfl, hgc⟩
  clear c0 c1 c2 c3
  clear e0 e1 e2 e3 e4 e5
  replace HD := Lib.hid (DocAt.grew HD.out hgc)
  replace HT := Lib.hid (NodeAt.grew hgc HT.out)
  replace HRR := Lib.hid (hgc.heap HRR.out)
  replace HRT := Lib.hid (hgc.heap HRT.out)
  replace HG := Lib.hid (HG.out.trans hgc)
  clear hgc
  have c0 := row_cellT HRR.out 0 _ rfl
  have c1 := row_cellT HRR.out 1 _ rfl
  have c2 := row_cellT HRR.out 2 _ rfl
  have c3 := row_cellT HRR.out 3 _ rfl
  have e0 := row_cellT HRT.out 0 _ rfl
  have e1 := row_cellT HRT.out 1 _ rfl
  have e2 := row_cellT HRT.out 2 _ rfl
  have e3 := row_cellT HRT.out 3 _ rfl
  have e4 := row_cellT HRT.out 4 _ rfl
  have e5 := row_cellT HRT.out 5 _ rfl
  cases lg
  · have HV : Hid (res = false) := by show _ = _; rw [← HRES.out, if_pos (by rw [HLG.out, Bool.and_false])]
    go_wp2_with fail
    go_ret
    exact ⟨by rw [HV.out]; rfl, HG.out⟩
  have HRS : Hid (res = if Ft.inlineB typ = true then lookF d typ pos par wid 0 t else if farB d typ pos par wid lim = false then false else if farT typ = true then lookF d typ pos par wid (pos - (numF d pos par).1) t else listF d typ wid (pos - (numF d pos par).1) t) := by show _ = _; rw [← HRES.out, if_neg (by rw [HWP.out, HWW.out, HLG.out]; decide)]
  clear HRES
  go_upto_region 5 with fail
  obtain ⟨lv, hlv⟩ : ∃ v, (match findI typ looksL 0 with | some q => q.2 | none => Value.nilFunc) = v := ⟨_, rfl⟩
  have HLV := Lib.hid hlv
  clear hlv
  refine wp_region_tables Grew [[], [], [1], [0, 1, 2], [0, 1, 2, 3]] [[(41, 1), (42, 2)], [(40, 0)], [(40, 0), (41, 1)], [(40, 0), (41, 1), (42, 2)], [(40, 0), (41, 1), (42, 2), (43, 3)]] [(40, 0), (41, 1), (42, 2), (43, 3), (13, 4)]
    [fun v w => ∃ b, v = .map (some b) ∧ MapI w b looksL, Is (.pointer (some ⟨pr, 2, none⟩)), Is (.int .i64 typ), Is (lv), Is (lv)]
    (by kernel_rfl) Grew.trans Grew.refl (Grew.refl _).drew (by kernel_rfl) ⟨fun v w w' hg ⟨b, e, h⟩ => ⟨b, e, hg.heap h⟩, is_st, is_st, is_st, is_st, trivial⟩ ?_ rfl ?_
  rotate_left
  · intro y w2 hG hF
    simp only [factsH, Is, and_true, Nat.reduceAdd] at hF
    have hlast := hF.2.2.2.2
    clear hF
    simp only [fillL, Act.put, List.setIfInBounds_toArray, List.set_cons_zero, List.set_cons_succ, List.getD_cons_zero, List.getD_cons_succ, hlast]
    have HG2 := Lib.hid hG
    clear hG hlast
    clear c0 c1 c2 c3
    clear e0 e1 e2 e3 e4 e5
    have hgc := HG2.out
    clear HG2
    replace HD := Lib.hid (DocAt.grew HD.out hgc)
    replace HT := Lib.hid (NodeAt.grew hgc HT.out)
    replace HRR := Lib.hid (hgc.heap HRR.out)
    replace HRT := Lib.hid (hgc.heap HRT.out)
    replace HG := Lib.hid (HG.out.trans hgc)
    clear hgc
    have c0 := row_cellT HRR.out 0 _ rfl
    have c1 := row_cellT HRR.out 1 _ rfl
    have c2 := row_cellT HRR.out 2 _ rfl
    have c3 := row_cellT HRR.out 3 _ rfl
    have e0 := row_cellT HRT.out 0 _ rfl
    have e1 := row_cellT HRT.out 1 _ rfl
    have e2 := row_cellT HRT.out 2 _ rfl
    have e3 := row_cellT HRT.out 3 _ rfl
    have e4 := row_cellT HRT.out 4 _ rfl
    have e5 := row_cellT HRT.out 5 _ rfl
    cases hnear : nearT typ
    rotate_left
    · obtain ⟨j, f, hf, hfc, hcall⟩ := look_call d typ (.inl hnear)
      have HFC := Lib.hid hfc
      clear hfc
      have HV : Hid (res = lookF d typ pos par wid 0 t) := by show _ = _; rw [HRS.out, if_pos (by rw [inline_near]; exact hnear)]
      obtain rfl : lv = fF f := by rw [← HLV.out, hf]
      have HC := Lib.hid hcall
      have heq := eql_fn f
      have hin := Ft.inline_any typ w2
      rw [inline_near, hnear] at hin
      have HIN := Lib.hid hin
      clear hcall hf hnear hin
      unfold fF
      go_wp2_with fail
      refine HIN.out.mono ?_
      rintro r u3 ⟨rfl, hgc⟩
      clear c0 c1 c2 c3
      clear e0 e1 e2 e3 e4 e5
      replace HD := Lib.hid (DocAt.grew HD.out hgc)
      replace HT := Lib.hid (NodeAt.grew hgc HT.out)
      replace HRR := Lib.hid (hgc.heap HRR.out)
      replace HRT := Lib.hid (hgc.heap HRT.out)
      replace HG := Lib.hid (HG.out.trans hgc)
      clear hgc
      have c0 := row_cellT HRR.out 0 _ rfl
      have c1 := row_cellT HRR.out 1 _ rfl
      have c2 := row_cellT HRR.out 2 _ rfl
      have c3 := row_cellT HRR.out 3 _ rfl
      have e0 := row_cellT HRT.out 0 _ rfl
      have e1 := row_cellT HRT.out 1 _ rfl
      have e2 := row_cellT HRT.out 2 _ rfl
      have e3 := row_cellT HRT.out 3 _ rfl
      have e4 := row_cellT HRT.out 4 _ rfl
      have e5 := row_cellT HRT.out 5 _ rfl
      rcases HFC.out with e | e | e | e | e | e | e
      all_goals
      · subst e
        go_wp2_with fail
        refine (HC.out _ pos par wid 0 t _ _ HD.out HT.out hp (by omega) hs HWW.out).mono ?_
        rintro r u4 ⟨rfl, hgc⟩
        replace HD := Lib.hid (DocAt.grew HD.out hgc)
        replace HT := Lib.hid (NodeAt.grew hgc HT.out)
        replace HRR := Lib.hid (hgc.heap HRR.out)
        replace HRT := Lib.hid (hgc.heap HRT.out)
        replace HG := Lib.hid (HG.out.trans hgc)
        clear hgc
        clear c0 c1 c2 c3
        clear e0 e1 e2 e3 e4 e5
        go_wp2_with fail
        go_ret
        exact ⟨by rw [HV.out]; rfl, HG.out⟩
    have hin := Ft.inline_any typ
    rw [inline_near, hnear] at hin
    have HIN := Lib.hid hin
    clear hin
    have HRT2 : Hid (res = if farB d typ pos par wid lim = false then false else if farT typ = true then lookF d typ pos par wid (pos - (numF d pos par).1) t else listF d typ wid (pos - (numF d pos par).1) t) := by show _ = _; rw [HRS.out, if_neg (by rw [inline_near, hnear]; decide)]
    obtain ⟨f, HF, HCALL⟩ : ∃ f, Hid ((farT typ = true ∧ lv = fF f ∧ (f = 73 ∨ f = 74 ∨ f = 75 ∨ f = 76 ∨ f = 77 ∨ f = 78 ∨ f = 79)) ∨ (farT typ = false ∧ lv = .nilFunc ∧ f = 47)) ∧ Hid (∀ (w : World) (at_ : Int), DocAt w (.slice da d.length dc) d → NodeAt w t (.agg #[.int .i64 tk, .int .i64 tn, .int .u64 tu, .string ts, .slice ta4 tn4 tc4, .slice ta5 tn5 tc5]) → 0 ≤ at_ ∧ at_ ≤ 1048576 → Calls Try.prog f #[.slice da d.length dc, .agg #[.int .i64 pos, .int .i64 par, .int .i64 typ, .int .i64 wid], .int .i64 at_, .agg #[.int .i64 tk, .int .i64 tn, .int .u64 tu, .string ts, .slice ta4 tn4 tc4, .slice ta5 tn5 tc5]] w fun r w' => r = .returned (.bool (if farT typ = true then lookF d typ pos par wid at_ t else listF d typ wid at_ t)) ∧ Grew w w') := by
      cases hfar : farT typ
      · refine ⟨47, .inr ⟨rfl, ?_, rfl⟩, fun w at_ h1 h2 h3 => ?_⟩
        · rw [← HLV.out, legal_far typ HLG.out hnear hfar]
        · rw [if_neg (by decide)]; exact hl hnear hfar _ pos par wid at_ _ w h1 h2 h3 HWW.out
      · obtain ⟨j, f, hf, hfc, hcall⟩ := look_call d typ (.inr hfar)
        refine ⟨f, .inl ⟨rfl, ?_, hfc⟩, fun w at_ h1 h2 h3 => ?_⟩
        · rw [← HLV.out, hf]
        · rw [if_pos rfl]; exact hcall _ pos par wid at_ t _ w h1 h2 hp h3 hs HWW.out
    have HLW : Hid ((lv = fF f ∧ (f = 73 ∨ f = 74 ∨ f = 75 ∨ f = 76 ∨ f = 77 ∨ f = 78 ∨ f = 79)) ∨ (lv = .nilFunc ∧ f = 47)) := HF.out.elim (fun h => .inl h.2) (fun h => .inr h.2)
    clear HF
    have HNU := Lib.hid (dnum_any d (.slice da d.length dc) pos par)
    have HNB := Lib.hid (num_bound d pos par HDL.out)
    have hwrg : IntKind.i64.wrap (aheadF typ * wid) = aheadF typ * wid ∧ 0 ≤ aheadF typ * wid ∧ aheadF typ * wid ≤ 24 := by
      have h1 := ahead_range typ
      have h2 : 0 ≤ aheadF typ * wid ∧ aheadF typ * wid ≤ 24 := by
        rcases isW_cases HWW.out with h | h | h | h <;> (rw [h]; omega)
      exact ⟨by rw [IntKind.wrap_i64]; omega, h2⟩
    have HWR := Lib.hid hwrg
    clear hwrg
    unfold farB at HRT2
    obtain ⟨q, hq⟩ : ∃ q, numF d pos par = q := ⟨_, rfl⟩
    rw [hq] at HRT2 HNU HNB
    clear hq
    obtain ⟨nv, ni⟩ := q
    simp only at HRT2 HNU HNB
    rcases HLW.out with ⟨e, hfc⟩ | ⟨e, e2⟩
    · subst e
      have HFC := Lib.hid hfc
      clear hfc
      have heq := eql_fn f
      unfold fF
      skip
      go_wp2_with fail
      refine (HIN.out w2).mono ?_
      rintro r u3 ⟨rfl, hgc⟩
      clear c0 c1 c2 c3
      clear e0 e1 e2 e3 e4 e5
      replace HD := Lib.hid (DocAt.grew HD.out hgc)
      replace HT := Lib.hid (NodeAt.grew hgc HT.out)
      replace HRR := Lib.hid (hgc.heap HRR.out)
      replace HRT := Lib.hid (hgc.heap HRT.out)
      replace HG := Lib.hid (HG.out.trans hgc)
      clear hgc
      have c0 := row_cellT HRR.out 0 _ rfl
      have c1 := row_cellT HRR.out 1 _ rfl
      have c2 := row_cellT HRR.out 2 _ rfl
      have c3 := row_cellT HRR.out 3 _ rfl
      have e0 := row_cellT HRT.out 0 _ rfl
      have e1 := row_cellT HRT.out 1 _ rfl
      have e2 := row_cellT HRT.out 2 _ rfl
      have e3 := row_cellT HRT.out 3 _ rfl
      have e4 := row_cellT HRT.out 4 _ rfl
      have e5 := row_cellT HRT.out 5 _ rfl
      go_wp2_with fail
      refine (HNU.out u3 HD.out hp).mono ?_
      rintro r u4 ⟨rfl, hgc⟩
      clear c0 c1 c2 c3
      clear e0 e1 e2 e3 e4 e5
      replace HD := Lib.hid (DocAt.grew HD.out hgc)
      replace HT := Lib.hid (NodeAt.grew hgc HT.out)
      replace HRR := Lib.hid (hgc.heap HRR.out)
      replace HRT := Lib.hid (hgc.heap HRT.out)
      replace HG := Lib.hid (HG.out.trans hgc)
      clear hgc
      have c0 := row_cellT HRR.out 0 _ rfl
      have c1 := row_cellT HRR.out 1 _ rfl
      have c2 := row_cellT HRR.out 2 _ rfl
      have c3 := row_cellT HRR.out 3 _ rfl
      have e0 := row_cellT HRT.out 0 _ rfl
      have e1 := row_cellT HRT.out 1 _ rfl
      have e2 := row_cellT HRT.out 2 _ rfl
      have e3 := row_cellT HRT.out 3 _ rfl
      have e4 := row_cellT HRT.out 4 _ rfl
      have e5 := row_cellT HRT.out 5 _ rfl
      go_upto_region 11 with fail
      cases ni
      · have HV : Hid (res = false) := by show _ = _; rw [HRT2.out]; rfl
        go_quiet (fail)
        have HGF := Lib.hid (HG.out.trans ((Grew.refl u4).drewN nq))
        go_wp2_with fail
        go_ret
        exact ⟨by rw [HV.out]; rfl, HGF.out⟩
      by_cases hle : nv ≤ pos
      rotate_left
      · have HV : Hid (res = false) := by show _ = _; rw [HRT2.out, decide_eq_false hle]; rfl
        have hgt : pos < nv := by omega
        clear hle
        go_quiet (fail)
        have HGF := Lib.hid (HG.out.trans ((Grew.refl u4).drewN nq))
        go_wp2_with fail
        go_ret
        exact ⟨by rw [HV.out]; rfl, HGF.out⟩
      obtain ⟨hb1, hb2, hb3⟩ := HNB.out rfl
      have hws : IntKind.i64.wrap (pos - nv) = pos - nv := by rw [IntKind.wrap_i64]; omega
      have hwa := HWR.out.1
      have hwb : IntKind.i64.wrap (pos - nv - aheadF typ * wid) = pos - nv - aheadF typ * wid := by have := HWR.out.2; rw [IntKind.wrap_i64]; omega
      have HAT : Hid (0 ≤ pos - nv ∧ pos - nv ≤ 1048576) := ⟨by omega, by omega⟩
      have HPN : Hid (0 ≤ nv) := hb3
      have HLE := Lib.hid hle
      clear hb1 hb2 hb3
      obtain ⟨bl, hbl⟩ : ∃ b, decide (lim ≤ pos - nv - aheadF typ * wid) = b := ⟨_, rfl⟩
      have HBL := Lib.hid hbl
      clear hbl
      have HRB : Hid (res = if bl = true then false else if farT typ = true then lookF d typ pos par wid (pos - nv) t else listF d typ wid (pos - nv) t) := by
        show _ = _
        rw [HRT2.out, decide_eq_true hle, ← HBL.out]
        by_cases hlt : pos - nv - aheadF typ * wid < lim
        · rw [decide_eq_true hlt, decide_eq_false (by omega)]; rfl
        · rw [decide_eq_false hlt, decide_eq_true (by omega)]; rfl
      refine wp_region_tables Grew [[], [0], [0, 1], [0, 1, 2], [0, 1, 2], [0, 1, 2, 4], [0, 1, 2, 3, 4, 5], [0, 1, 2, 3, 4, 5, 6], [0, 1, 2, 3, 4, 5, 6, 7], [0, 1, 2, 3, 4, 5, 6, 7, 8], [0, 1, 2, 3, 4, 5, 6, 7, 8, 9], [0, 1, 2, 3, 4, 5, 6, 7, 8], [0, 1, 2, 3, 4, 5, 6, 7, 8, 9, 10, 11], [0, 1, 2, 3, 4, 5, 6, 7, 8], [0, 1, 2, 3, 4, 5, 6, 7, 8, 13], [0, 1, 2, 3, 4, 5, 6, 7, 8, 13, 14], [0, 1, 2, 3, 4, 5, 6, 7, 8], [0, 1, 2, 3, 4, 5, 6, 7, 8, 16], [0, 1, 2, 3, 4, 5, 6, 7, 8, 13, 14, 15, 16, 17], [0, 1, 2, 3, 4, 5, 6, 7, 8, 9, 10, 11, 12, 13, 14, 15, 16, 17, 18], [0, 1, 2, 3, 4, 5, 6, 7, 8], [0, 1, 2, 3, 4, 5, 6, 7, 8, 9, 10, 11, 12, 13, 14, 15, 16, 17, 18, 19, 20], [0, 1, 2, 3, 4, 5, 6, 7, 8, 9, 10, 11, 12, 13, 14, 15, 16, 17, 18, 19, 20, 21]] [[], [(63, 0)], [(63, 0), (64, 1)], [(63, 0), (64, 1), (65, 2), (67, 4), (68, 5)], [(63, 0), (64, 1), (65, 2), (66, 3)], [(63, 0), (64, 1), (65, 2), (66, 3), (67, 4)], [(63, 0), (64, 1), (65, 2), (66, 3), (67, 4), (68, 5)], [(63, 0), (64, 1), (65, 2), (66, 3), (67, 4), (68, 5), (69, 6)], [(63, 0), (64, 1), (65, 2), (66, 3), (67, 4), (68, 5), (69, 6), (70, 7)], [(63, 0), (64, 1), (65, 2), (66, 3), (67, 4), (68, 5), (69, 6), (70, 7), (71, 8), (74, 11), (76, 13), (77, 14), (78, 15), (79, 16), (80, 17), (81, 18), (83, 20)], [(63, 0), (64, 1), (65, 2), (66, 3), (67, 4), (68, 5), (69, 6), (70, 7), (71, 8), (72, 9), (74, 11), (76, 13), (77, 14), (78, 15), (79, 16), (80, 17), (81, 18), (83, 20)], [(63, 0), (64, 1), (65, 2), (66, 3), (67, 4), (68, 5), (69, 6), (70, 7), (71, 8), (72, 9), (73, 10), (76, 13), (77, 14), (78, 15), (79, 16), (80, 17), (81, 18), (83, 20)], [(63, 0), (64, 1), (65, 2), (66, 3), (67, 4), (68, 5), (69, 6), (70, 7), (71, 8), (72, 9), (73, 10), (74, 11), (76, 13), (77, 14), (78, 15), (79, 16), (80, 17), (81, 18), (83, 20)], [(63, 0), (64, 1), (65, 2), (66, 3), (67, 4), (68, 5), (69, 6), (70, 7), (71, 8), (72, 9), (73, 10), (74, 11), (75, 12), (79, 16), (80, 17), (83, 20)], [(63, 0), (64, 1), (65, 2), (66, 3), (67, 4), (68, 5), (69, 6), (70, 7), (71, 8), (72, 9), (73, 10), (74, 11), (75, 12), (76, 13), (79, 16), (80, 17), (83, 20)], [(63, 0), (64, 1), (65, 2), (66, 3), (67, 4), (68, 5), (69, 6), (70, 7), (71, 8), (72, 9), (73, 10), (74, 11), (75, 12), (76, 13), (77, 14), (79, 16), (80, 17), (83, 20)], [(63, 0), (64, 1), (65, 2), (66, 3), (67, 4), (68, 5), (69, 6), (70, 7), (71, 8), (72, 9), (73, 10), (74, 11), (75, 12), (76, 13), (77, 14), (78, 15), (83, 20)], [(63, 0), (64, 1), (65, 2), (66, 3), (67, 4), (68, 5), (69, 6), (70, 7), (71, 8), (72, 9), (73, 10), (74, 11), (75, 12), (76, 13), (77, 14), (78, 15), (79, 16), (83, 20)], [(63, 0), (64, 1), (65, 2), (66, 3), (67, 4), (68, 5), (69, 6), (70, 7), (71, 8), (72, 9), (73, 10), (74, 11), (75, 12), (76, 13), (77, 14), (78, 15), (79, 16), (80, 17), (83, 20)], [(63, 0), (64, 1), (65, 2), (66, 3), (67, 4), (68, 5), (69, 6), (70, 7), (71, 8), (72, 9), (73, 10), (74, 11), (75, 12), (76, 13), (77, 14), (78, 15), (79, 16), (80, 17), (81, 18), (83, 20)], [(63, 0), (64, 1), (65, 2), (66, 3), (67, 4), (68, 5), (69, 6), (70, 7), (71, 8), (72, 9), (73, 10), (74, 11), (75, 12), (76, 13), (77, 14), (78, 15), (79, 16), (80, 17), (81, 18), (82, 19)], [(63, 0), (64, 1), (65, 2), (66, 3), (67, 4), (68, 5), (69, 6), (70, 7), (71, 8), (72, 9), (73, 10), (74, 11), (75, 12), (76, 13), (77, 14), (78, 15), (79, 16), (80, 17), (81, 18), (82, 19), (83, 20)], [(63, 0), (64, 1), (65, 2), (66, 3), (67, 4), (68, 5), (69, 6), (70, 7), (71, 8), (72, 9), (73, 10), (74, 11), (75, 12), (76, 13), (77, 14), (78, 15), (79, 16), (80, 17), (81, 18), (82, 19), (83, 20), (84, 21)]] [(63, 0), (64, 1), (65, 2), (66, 3), (67, 4), (68, 5), (69, 6), (70, 7), (71, 8), (72, 9), (73, 10), (74, 11), (75, 12), (76, 13), (77, 14), (78, 15), (79, 16), (80, 17), (81, 18), (82, 19), (83, 20), (84, 21), (85, 22)]
        [Is (.bool true), Is (.bool false), Is (.bool false), Is (.int .i64 nv), Is (.pointer (some ⟨pr, 0, none⟩)), Is (.int .i64 pos), Is (.bool false), Is (.bool false), Is (.bool false), Is (.pointer (some ⟨pr, 0, none⟩)), Is (.int .i64 pos), Is (.int .i64 nv), Is (.int .i64 (pos - nv)), Is (.pointer (some ⟨pr, 2, none⟩)), Is (.int .i64 typ), Is (.int .i64 (aheadF typ)), Is (.pointer (some ⟨pr, 3, none⟩)), Is (.int .i64 wid), Is (.int .i64 (aheadF typ * wid)), Is (.int .i64 (pos - nv - aheadF typ * wid)), Is (.int .i64 lim), Is (.bool bl), Is (.bool bl)]
        (by kernel_rfl) Grew.trans Grew.refl (Grew.refl _).drew (by kernel_rfl) ⟨is_st, is_st, is_st, is_st, is_st, is_st, is_st, is_st, is_st, is_st, is_st, is_st, is_st, is_st, is_st, is_st, is_st, is_st, is_st, is_st, is_st, is_st, is_st, trivial⟩ ?_ rfl ?_
      rotate_left
      · intro y w2 hG hF
        simp only [factsH, Is, and_true, Nat.reduceAdd] at hF
        have hlast := hF.2.2.2.2.2.2.2.2.2.2.2.2.2.2.2.2.2.2.2.2.2.2
        clear hF
        simp only [fillL, Act.put, List.setIfInBounds_toArray, List.set_cons_zero, List.set_cons_succ, List.getD_cons_zero, List.getD_cons_succ, hlast]
        have hgc := hG
        clear hG hlast
        clear c0 c1 c2 c3
        clear e0 e1 e2 e3 e4 e5
        replace HD := Lib.hid (DocAt.grew HD.out hgc)
        replace HT := Lib.hid (NodeAt.grew hgc HT.out)
        replace HRR := Lib.hid (hgc.heap HRR.out)
        replace HRT := Lib.hid (hgc.heap HRT.out)
        replace HG := Lib.hid (HG.out.trans hgc)
        clear hgc
        have c0 := row_cellT HRR.out 0 _ rfl
        have c1 := row_cellT HRR.out 1 _ rfl
        have c2 := row_cellT HRR.out 2 _ rfl
        have c3 := row_cellT HRR.out 3 _ rfl
        have e0 := row_cellT HRT.out 0 _ rfl
        have e1 := row_cellT HRT.out 1 _ rfl
        have e2 := row_cellT HRT.out 2 _ rfl
        have e3 := row_cellT HRT.out 3 _ rfl
        have e4 := row_cellT HRT.out 4 _ rfl
        have e5 := row_cellT HRT.out 5 _ rfl
        cases bl
        rotate_left
        · have HV : Hid (res = false) := by show _ = _; rw [HRB.out]; rfl
          go_wp2_with fail
          go_ret
          exact ⟨by rw [HV.out]; rfl, HG.out⟩
        have HV : Hid (res = if farT typ = true then lookF d typ pos par wid (pos - nv) t else listF d typ wid (pos - nv) t) := by show _ = _; rw [HRB.out]; rfl
        rcases HFC.out with e | e | e | e | e | e | e
        all_goals
        · subst e
          have hcl := HCALL.out w2 (pos - nv) HD.out HT.out HAT.out
          rw [← HV.out] at hcl
          have HCL := Lib.hid hcl
          clear hcl
          go_wp2_with fail
          refine (HCL.out).mono ?_
          rintro r u5 ⟨rfl, hgc⟩
          replace HD := Lib.hid (DocAt.grew HD.out hgc)
          replace HT := Lib.hid (NodeAt.grew hgc HT.out)
          replace HRR := Lib.hid (hgc.heap HRR.out)
          replace HRT := Lib.hid (hgc.heap HRT.out)
          replace HG := Lib.hid (HG.out.trans hgc)
          clear hgc
          clear c0 c1 c2 c3
          clear e0 e1 e2 e3 e4 e5
          go_wp2_with fail
          go_ret
          exact ⟨rfl, HG.out⟩
      refine ⟨?_, ?_⟩
      · intro y w2 hG hD K hK
        generalize hA : fillL y _ _ = A at hK ⊢
        simp only [fillL, Act.put, List.setIfInBounds_toArray, List.set_cons_zero, List.set_cons_succ, List.getD_cons_zero, List.getD_cons_succ, Is] at hA
        subst hA
        refine ite_yes (by rfl) ?_
        go_simp
        exact hK _ _ _ rfl (Grew.refl _) rfl
      refine ⟨?_, ?_⟩
      · intro y w2 hG hD K hK
        simp only [depsH, List.getD_cons_zero, List.getD_cons_succ, Is, and_true] at hD
        have h0 := hD
        clear hD
        generalize hA : fillL y _ _ = A at hK ⊢
        simp only [fillL, Act.put, List.setIfInBounds_toArray, List.set_cons_zero, List.set_cons_succ, List.getD_cons_zero, List.getD_cons_succ, Is] at hA
        subst hA
        simp only [h0] at hK ⊢
        clear h0
        refine ite_yes (by rfl) ?_
        go_simp
        exact hK _ _ _ rfl (Grew.refl _) rfl
      refine ⟨?_, ?_⟩
      · intro y w2 hG hD K hK
        simp only [depsH, List.getD_cons_zero, List.getD_cons_succ, Is, and_true] at hD
        have h0 := hD.1
        have h1 := hD.2
        clear hD
        generalize hA : fillL y _ _ = A at hK ⊢
        simp only [fillL, Act.put, List.setIfInBounds_toArray, List.set_cons_zero, List.set_cons_succ, List.getD_cons_zero, List.getD_cons_succ, Is] at hA
        subst hA
        simp only [h0, h1] at hK ⊢
        clear h0 h1
        refine ite_yes (by rfl) ?_
        go_simp
        exact hK _ _ _ rfl (Grew.refl _) rfl
      refine ⟨?_, ?_⟩
      · intro y w2 hG hD K hK
        simp only [depsH, List.getD_cons_zero, List.getD_cons_succ, Is, and_true] at hD
        have h0 := hD.1
        have h1 := hD.2.1
        have h2 := hD.2.2
        clear hD
        generalize hA : fillL y _ _ = A at hK ⊢
        simp only [fillL, Act.put, List.setIfInBounds_toArray, List.set_cons_zero, List.set_cons_succ, List.getD_cons_zero, List.getD_cons_succ, Is] at hA
        subst hA
        simp only [h0, h1, h2] at hK ⊢
        clear h0 h1 h2
        refine ite_yes (by rfl) ?_
        go_simp
        exact hK _ _ _ rfl (Grew.refl _) rfl
      refine ⟨?_, ?_⟩
      · intro y w2 hG hD K hK
        simp only [depsH, List.getD_cons_zero, List.getD_cons_succ, Is, and_true] at hD
        have h0 := hD.1
        have h1 := hD.2.1
        have h2 := hD.2.2
        clear hD
        generalize hA : fillL y _ _ = A at hK ⊢
        simp only [fillL, Act.put, List.setIfInBounds_toArray, List.set_cons_zero, List.set_cons_succ, List.getD_cons_zero, List.getD_cons_succ, Is] at hA
        subst hA
        simp only [h0, h1, h2] at hK ⊢
        clear h0 h1 h2
        refine ite_yes (by rfl) ?_
        go_simp
        exact hK _ _ _ rfl (Grew.refl _) rfl
      refine ⟨?_, ?_⟩
      · intro y w2 hG hD K hK
        simp only [depsH, List.getD_cons_zero, List.getD_cons_succ, Is, and_true] at hD
        have h0 := hD.1
        have h1 := hD.2.1
        have h2 := hD.2.2.1
        have h4 := hD.2.2.2
        clear hD
        have dc0 := hG.cell c0
        have dc1 := hG.cell c1
        have dc2 := hG.cell c2
        have dc3 := hG.cell c3
        generalize hA : fillL y _ _ = A at hK ⊢
        simp only [fillL, Act.put, List.setIfInBounds_toArray, List.set_cons_zero, List.set_cons_succ, List.getD_cons_zero, List.getD_cons_succ, Is] at hA
        subst hA
        simp only [h0, h1, h2, h4] at hK ⊢
        clear h0 h1 h2 h4
        refine ite_yes (by rfl) ?_
        go_simp
        exact hK _ _ _ rfl (Grew.refl _) rfl
      refine ⟨?_, ?_⟩
      · intro y w2 hG hD K hK
        simp only [depsH, List.getD_cons_zero, List.getD_cons_succ, Is, and_true] at hD
        have h0 := hD.1
        have h1 := hD.2.1
        have h2 := hD.2.2.1
        have h3 := hD.2.2.2.1
        have h4 := hD.2.2.2.2.1
        have h5 := hD.2.2.2.2.2
        clear hD
        generalize hA : fillL y _ _ = A at hK ⊢
        simp only [fillL, Act.put, List.setIfInBounds_toArray, List.set_cons_zero, List.set_cons_succ, List.getD_cons_zero, List.getD_cons_succ, Is] at hA
        subst hA
        simp only [h0, h1, h2, h3, h4, h5] at hK ⊢
        clear h0 h1 h2 h3 h4 h5
        refine ite_yes (by rfl) ?_
        go_simp
        exact hK _ _ _ rfl (Grew.refl _) (by first | rfl | exact congrArg Value.bool (decide_eq_false (by omega)))
      refine ⟨?_, ?_⟩
      · intro y w2 hG hD K hK
        simp only [depsH, List.getD_cons_zero, List.getD_cons_succ, Is, and_true] at hD
        have h0 := hD.1
        have h1 := hD.2.1
        have h2 := hD.2.2.1
        have h3 := hD.2.2.2.1
        have h4 := hD.2.2.2.2.1
        have h5 := hD.2.2.2.2.2.1
        have h6 := hD.2.2.2.2.2.2
        clear hD
        generalize hA : fillL y _ _ = A at hK ⊢
        simp only [fillL, Act.put, List.setIfInBounds_toArray, List.set_cons_zero, List.set_cons_succ, List.getD_cons_zero, List.getD_cons_succ, Is] at hA
        subst hA
        simp only [h0, h1, h2, h3, h4, h5, h6] at hK ⊢
        clear h0 h1 h2 h3 h4 h5 h6
        refine ite_yes (by rfl) ?_
        go_simp
        exact hK _ _ _ rfl (Grew.refl _) rfl
      refine ⟨?_, ?_⟩
      · intro y w2 hG hD K hK
        simp only [depsH, List.getD_cons_zero, List.getD_cons_succ, Is, and_true] at hD
        have h0 := hD.1
        have h1 := hD.2.1
        have h2 := hD.2.2.1
        have h3 := hD.2.2.2.1
        have h4 := hD.2.2.2.2.1
        have h5 := hD.2.2.2.2.2.1
        have h6 := hD.2.2.2.2.2.2.1
        have h7 := hD.2.2.2.2.2.2.2
        clear hD
        generalize hA : fillL y _ _ = A at hK ⊢
        simp only [fillL, Act.put, List.setIfInBounds_toArray, List.set_cons_zero, List.set_cons_succ, List.getD_cons_zero, List.getD_cons_succ, Is] at hA
        subst hA
        simp only [h0, h1, h2, h3, h4, h5, h6, h7] at hK ⊢
        clear h0 h1 h2 h3 h4 h5 h6 h7
        refine ite_yes (by rfl) ?_
        go_simp
        exact hK _ _ _ rfl (Grew.refl _) rfl
      refine ⟨?_, ?_⟩
      · intro y w2 hG hD K hK
        simp only [depsH, List.getD_cons_zero, List.getD_cons_succ, Is, and_true] at hD
        have h0 := hD.1
        have h1 := hD.2.1
        have h2 := hD.2.2.1
        have h3 := hD.2.2.2.1
        have h4 := hD.2.2.2.2.1
        have h5 := hD.2.2.2.2.2.1
        have h6 := hD.2.2.2.2.2.2.1
        have h7 := hD.2.2.2.2.2.2.2.1
        have h8 := hD.2.2.2.2.2.2.2.2
        clear hD
        generalize hA : fillL y _ _ = A at hK ⊢
        simp only [fillL, Act.put, List.setIfInBounds_toArray, List.set_cons_zero, List.set_cons_succ, List.getD_cons_zero, List.getD_cons_succ, Is] at hA
        subst hA
        simp only [h0, h1, h2, h3, h4, h5, h6, h7, h8] at hK ⊢
        clear h0 h1 h2 h3 h4 h5 h6 h7 h8
        refine ite_yes (by rfl) ?_
        go_simp
        exact hK _ _ _ rfl (Grew.refl _) rfl
      refine ⟨?_, ?_⟩
      · intro y w2 hG hD K hK
        simp only [depsH, List.getD_cons_zero, List.getD_cons_succ, Is, and_true] at hD
        have h0 := hD.1
        have h1 := hD.2.1
        have h2 := hD.2.2.1
        have h3 := hD.2.2.2.1
        have h4 := hD.2.2.2.2.1
        have h5 := hD.2.2.2.2.2.1
        have h6 := hD.2.2.2.2.2.2.1
        have h7 := hD.2.2.2.2.2.2.2.1
        have h8 := hD.2.2.2.2.2.2.2.2.1
        have h9 := hD.2.2.2.2.2.2.2.2.2
        clear hD
        have dc0 := hG.cell c0
        have dc1 := hG.cell c1
        have dc2 := hG.cell c2
        have dc3 := hG.cell c3
        generalize hA : fillL y _ _ = A at hK ⊢
        simp only [fillL, Act.put, List.setIfInBounds_toArray, List.set_cons_zero, List.set_cons_succ, List.getD_cons_zero, List.getD_cons_succ, Is] at hA
        subst hA
        simp only [h0, h1, h2, h3, h4, h5, h6, h7, h8, h9] at hK ⊢
        clear h0 h1 h2 h3 h4 h5 h6 h7 h8 h9
        refine ite_yes (by rfl) ?_
        go_simp
        exact hK _ _ _ rfl (Grew.refl _) rfl
      refine ⟨?_, ?_⟩
      · intro y w2 hG hD K hK
        simp only [depsH, List.getD_cons_zero, List.getD_cons_succ, Is, and_true] at hD
        have h0 := hD.1
        have h1 := hD.2.1
        have h2 := hD.2.2.1
        have h3 := hD.2.2.2.1
        have h4 := hD.2.2.2.2.1
        have h5 := hD.2.2.2.2.2.1
        have h6 := hD.2.2.2.2.2.2.1
        have h7 := hD.2.2.2.2.2.2.2.1
        have h8 := hD.2.2.2.2.2.2.2.2
        clear hD
        generalize hA : fillL y _ _ = A at hK ⊢
        simp only [fillL, Act.put, List.setIfInBounds_toArray, List.set_cons_zero, List.set_cons_succ, List.getD_cons_zero, List.getD_cons_succ, Is] at hA
        subst hA
        simp only [h0, h1, h2, h3, h4, h5, h6, h7, h8] at hK ⊢
        clear h0 h1 h2 h3 h4 h5 h6 h7 h8
        refine ite_yes (by rfl) ?_
        go_simp
        exact hK _ _ _ rfl (Grew.refl _) rfl
      refine ⟨?_, ?_⟩
      · intro y w2 hG hD K hK
        simp only [depsH, List.getD_cons_zero, List.getD_cons_succ, Is, and_true] at hD
        have h0 := hD.1
        have h1 := hD.2.1
        have h2 := hD.2.2.1
        have h3 := hD.2.2.2.1
        have h4 := hD.2.2.2.2.1
        have h5 := hD.2.2.2.2.2.1
        have h6 := hD.2.2.2.2.2.2.1
        have h7 := hD.2.2.2.2.2.2.2.1
        have h8 := hD.2.2.2.2.2.2.2.2.1
        have h9 := hD.2.2.2.2.2.2.2.2.2.1
        have h10 := hD.2.2.2.2.2.2.2.2.2.2.1
        have h11 := hD.2.2.2.2.2.2.2.2.2.2.2
        clear hD
        generalize hA : fillL y _ _ = A at hK ⊢
        simp only [fillL, Act.put, List.setIfInBounds_toArray, List.set_cons_zero, List.set_cons_succ, List.getD_cons_zero, List.getD_cons_succ, Is] at hA
        subst hA
        simp only [h0, h1, h2, h3, h4, h5, h6, h7, h8, h9, h10, h11] at hK ⊢
        clear h0 h1 h2 h3 h4 h5 h6 h7 h8 h9 h10 h11
        refine ite_yes (by rfl) ?_
        go_simp
        exact hK _ _ _ rfl (Grew.refl _) rfl
      refine ⟨?_, ?_⟩
      · intro y w2 hG hD K hK
        simp only [depsH, List.getD_cons_zero, List.getD_cons_succ, Is, and_true] at hD
        have h0 := hD.1
        have h1 := hD.2.1
        have h2 := hD.2.2.1
        have h3 := hD.2.2.2.1
        have h4 := hD.2.2.2.2.1
        have h5 := hD.2.2.2.2.2.1
        have h6 := hD.2.2.2.2.2.2.1
        have h7 := hD.2.2.2.2.2.2.2.1
        have h8 := hD.2.2.2.2.2.2.2.2
        clear hD
        generalize hA : fillL y _ _ = A at hK ⊢
        simp only [fillL, Act.put, List.setIfInBounds_toArray, List.set_cons_zero, List.set_cons_succ, List.getD_cons_zero, List.getD_cons_succ, Is] at hA
        subst hA
        simp only [h0, h1, h2, h3, h4, h5, h6, h7, h8] at hK ⊢
        clear h0 h1 h2 h3 h4 h5 h6 h7 h8
        refine ite_yes (by rfl) ?_
        go_simp
        exact hK _ _ _ rfl (Grew.refl _) rfl
      refine ⟨?_, ?_⟩
      · intro y w2 hG hD K hK
        simp only [depsH, List.getD_cons_zero, List.getD_cons_succ, Is, and_true] at hD
        have h0 := hD.1
        have h1 := hD.2.1
        have h2 := hD.2.2.1
        have h3 := hD.2.2.2.1
        have h4 := hD.2.2.2.2.1
        have h5 := hD.2.2.2.2.2.1
        have h6 := hD.2.2.2.2.2.2.1
        have h7 := hD.2.2.2.2.2.2.2.1
        have h8 := hD.2.2.2.2.2.2.2.2.1
        have h13 := hD.2.2.2.2.2.2.2.2.2
        clear hD
        have dc0 := hG.cell c0
        have dc1 := hG.cell c1
        have dc2 := hG.cell c2
        have dc3 := hG.cell c3
        generalize hA : fillL y _ _ = A at hK ⊢
        simp only [fillL, Act.put, List.setIfInBounds_toArray, List.set_cons_zero, List.set_cons_succ, List.getD_cons_zero, List.getD_cons_succ, Is] at hA
        subst hA
        simp only [h0, h1, h2, h3, h4, h5, h6, h7, h8, h13] at hK ⊢
        clear h0 h1 h2 h3 h4 h5 h6 h7 h8 h13
        refine ite_yes (by rfl) ?_
        go_simp
        exact hK _ _ _ rfl (Grew.refl _) rfl
      refine ⟨?_, ?_⟩
      · intro y w2 hG hD K hK
        simp only [depsH, List.getD_cons_zero, List.getD_cons_succ, Is, and_true] at hD
        have h0 := hD.1
        have h1 := hD.2.1
        have h2 := hD.2.2.1
        have h3 := hD.2.2.2.1
        have h4 := hD.2.2.2.2.1
        have h5 := hD.2.2.2.2.2.1
        have h6 := hD.2.2.2.2.2.2.1
        have h7 := hD.2.2.2.2.2.2.2.1
        have h8 := hD.2.2.2.2.2.2.2.2.1
        have h13 := hD.2.2.2.2.2.2.2.2.2.1
        have h14 := hD.2.2.2.2.2.2.2.2.2.2
        clear hD
        generalize hA : fillL y _ _ = A at hK ⊢
        simp only [fillL, Act.put, List.setIfInBounds_toArray, List.set_cons_zero, List.set_cons_succ, List.getD_cons_zero, List.getD_cons_succ, Is] at hA
        subst hA
        simp only [h0, h1, h2, h3, h4, h5, h6, h7, h8, h13, h14] at hK ⊢
        clear h0 h1 h2 h3 h4 h5 h6 h7 h8 h13 h14
        refine ite_yes (by rfl) ?_
        go_simp
        refine (ahead_any typ w2).mono ?_
        rintro r w3 ⟨rfl, hg3⟩
        exact hK _ _ _ rfl hg3 rfl
      refine ⟨?_, ?_⟩
      · intro y w2 hG hD K hK
        simp only [depsH, List.getD_cons_zero, List.getD_cons_succ, Is, and_true] at hD
        have h0 := hD.1
        have h1 := hD.2.1
        have h2 := hD.2.2.1
        have h3 := hD.2.2.2.1
        have h4 := hD.2.2.2.2.1
        have h5 := hD.2.2.2.2.2.1
        have h6 := hD.2.2.2.2.2.2.1
        have h7 := hD.2.2.2.2.2.2.2.1
        have h8 := hD.2.2.2.2.2.2.2.2
        clear hD
        generalize hA : fillL y _ _ = A at hK ⊢
        simp only [fillL, Act.put, List.setIfInBounds_toArray, List.set_cons_zero, List.set_cons_succ, List.getD_cons_zero, List.getD_cons_succ, Is] at hA
        subst hA
        simp only [h0, h1, h2, h3, h4, h5, h6, h7, h8] at hK ⊢
        clear h0 h1 h2 h3 h4 h5 h6 h7 h8
        refine ite_yes (by rfl) ?_
        go_simp
        exact hK _ _ _ rfl (Grew.refl _) rfl
      refine ⟨?_, ?_⟩
      · intro y w2 hG hD K hK
        simp only [depsH, List.getD_cons_zero, List.getD_cons_succ, Is, and_true] at hD
        have h0 := hD.1
        have h1 := hD.2.1
        have h2 := hD.2.2.1
        have h3 := hD.2.2.2.1
        have h4 := hD.2.2.2.2.1
        have h5 := hD.2.2.2.2.2.1
        have h6 := hD.2.2.2.2.2.2.1
        have h7 := hD.2.2.2.2.2.2.2.1
        have h8 := hD.2.2.2.2.2.2.2.2.1
        have h16 := hD.2.2.2.2.2.2.2.2.2
        clear hD
        have dc0 := hG.cell c0
        have dc1 := hG.cell c1
        have dc2 := hG.cell c2
        have dc3 := hG.cell c3
        generalize hA : fillL y _ _ = A at hK ⊢
        simp only [fillL, Act.put, List.setIfInBounds_toArray, List.set_cons_zero, List.set_cons_succ, List.getD_cons_zero, List.getD_cons_succ, Is] at hA
        subst hA
        simp only [h0, h1, h2, h3, h4, h5, h6, h7, h8, h16] at hK ⊢
        clear h0 h1 h2 h3 h4 h5 h6 h7 h8 h16
        refine ite_yes (by rfl) ?_
        go_simp
        exact hK _ _ _ rfl (Grew.refl _) rfl
      refine ⟨?_, ?_⟩
      · intro y w2 hG hD K hK
        simp only [depsH, List.getD_cons_zero, List.getD_cons_succ, Is, and_true] at hD
        have h0 := hD.1
        have h1 := hD.2.1
        have h2 := hD.2.2.1
        have h3 := hD.2.2.2.1
        have h4 := hD.2.2.2.2.1
        have h5 := hD.2.2.2.2.2.1
        have h6 := hD.2.2.2.2.2.2.1
        have h7 := hD.2.2.2.2.2.2.2.1
        have h8 := hD.2.2.2.2.2.2.2.2.1
        have h13 := hD.2.2.2.2.2.2.2.2.2.1
        have h14 := hD.2.2.2.2.2.2.2.2.2.2.1
        have h15 := hD.2.2.2.2.2.2.2.2.2.2.2.1
        have h16 := hD.2.2.2.2.2.2.2.2.2.2.2.2.1
        have h17 := hD.2.2.2.2.2.2.2.2.2.2.2.2.2
        clear hD
        generalize hA : fillL y _ _ = A at hK ⊢
        simp only [fillL, Act.put, List.setIfInBounds_toArray, List.set_cons_zero, List.set_cons_succ, List.getD_cons_zero, List.getD_cons_succ, Is] at hA
        subst hA
        simp only [h0, h1, h2, h3, h4, h5, h6, h7, h8, h13, h14, h15, h16, h17] at hK ⊢
        clear h0 h1 h2 h3 h4 h5 h6 h7 h8 h13 h14 h15 h16 h17
        refine ite_yes (by rfl) ?_
        go_simp
        exact hK _ _ _ rfl (Grew.refl _) rfl
      refine ⟨?_, ?_⟩
      · intro y w2 hG hD K hK
        simp only [depsH, List.getD_cons_zero, List.getD_cons_succ, Is, and_true] at hD
        have h0 := hD.1
        have h1 := hD.2.1
        have h2 := hD.2.2.1
        have h3 := hD.2.2.2.1
        have h4 := hD.2.2.2.2.1
        have h5 := hD.2.2.2.2.2.1
        have h6 := hD.2.2.2.2.2.2.1
        have h7 := hD.2.2.2.2.2.2.2.1
        have h8 := hD.2.2.2.2.2.2.2.2.1
        have h9 := hD.2.2.2.2.2.2.2.2.2.1
        have h10 := hD.2.2.2.2.2.2.2.2.2.2.1
        have h11 := hD.2.2.2.2.2.2.2.2.2.2.2.1
        have h12 := hD.2.2.2.2.2.2.2.2.2.2.2.2.1
        have h13 := hD.2.2.2.2.2.2.2.2.2.2.2.2.2.1
        have h14 := hD.2.2.2.2.2.2.2.2.2.2.2.2.2.2.1
        have h15 := hD.2.2.2.2.2.2.2.2.2.2.2.2.2.2.2.1
        have h16 := hD.2.2.2.2.2.2.2.2.2.2.2.2.2.2.2.2.1
        have h17 := hD.2.2.2.2.2.2.2.2.2.2.2.2.2.2.2.2.2.1
        have h18 := hD.2.2.2.2.2.2.2.2.2.2.2.2.2.2.2.2.2.2
        clear hD
        generalize hA : fillL y _ _ = A at hK ⊢
        simp only [fillL, Act.put, List.setIfInBounds_toArray, List.set_cons_zero, List.set_cons_succ, List.getD_cons_zero, List.getD_cons_succ, Is] at hA
        subst hA
        simp only [h0, h1, h2, h3, h4, h5, h6, h7, h8, h9, h10, h11, h12, h13, h14, h15, h16, h17, h18] at hK ⊢
        clear h0 h1 h2 h3 h4 h5 h6 h7 h8 h9 h10 h11 h12 h13 h14 h15 h16 h17 h18
        refine ite_yes (by rfl) ?_
        go_simp
        exact hK _ _ _ rfl (Grew.refl _) rfl
      refine ⟨?_, ?_⟩
      · intro y w2 hG hD K hK
        simp only [depsH, List.getD_cons_zero, List.getD_cons_succ, Is, and_true] at hD
        have h0 := hD.1
        have h1 := hD.2.1
        have h2 := hD.2.2.1
        have h3 := hD.2.2.2.1
        have h4 := hD.2.2.2.2.1
        have h5 := hD.2.2.2.2.2.1
        have h6 := hD.2.2.2.2.2.2.1
        have h7 := hD.2.2.2.2.2.2.2.1
        have h8 := hD.2.2.2.2.2.2.2.2
        clear hD
        generalize hA : fillL y _ _ = A at hK ⊢
        simp only [fillL, Act.put, List.setIfInBounds_toArray, List.set_cons_zero, List.set_cons_succ, List.getD_cons_zero, List.getD_cons_succ, Is] at hA
        subst hA
        simp only [h0, h1, h2, h3, h4, h5, h6, h7, h8] at hK ⊢
        clear h0 h1 h2 h3 h4 h5 h6 h7 h8
        refine ite_yes (by rfl) ?_
        go_simp
        exact hK _ _ _ rfl (Grew.refl _) rfl
      refine ⟨?_, ?_⟩
      · intro y w2 hG hD K hK
        simp only [depsH, List.getD_cons_zero, List.getD_cons_succ, Is, and_true] at hD
        have h0 := hD.1
        have h1 := hD.2.1
        have h2 := hD.2.2.1
        have h3 := hD.2.2.2.1
        have h4 := hD.2.2.2.2.1
        have h5 := hD.2.2.2.2.2.1
        have h6 := hD.2.2.2.2.2.2.1
        have h7 := hD.2.2.2.2.2.2.2.1
        have h8 := hD.2.2.2.2.2.2.2.2.1
        have h9 := hD.2.2.2.2.2.2.2.2.2.1
        have h10 := hD.2.2.2.2.2.2.2.2.2.2.1
        have h11 := hD.2.2.2.2.2.2.2.2.2.2.2.1
        have h12 := hD.2.2.2.2.2.2.2.2.2.2.2.2.1
        have h13 := hD.2.2.2.2.2.2.2.2.2.2.2.2.2.1
        have h14 := hD.2.2.2.2.2.2.2.2.2.2.2.2.2.2.1
        have h15 := hD.2.2.2.2.2.2.2.2.2.2.2.2.2.2.2.1
        have h16 := hD.2.2.2.2.2.2.2.2.2.2.2.2.2.2.2.2.1
        have h17 := hD.2.2.2.2.2.2.2.2.2.2.2.2.2.2.2.2.2.1
        have h18 := hD.2.2.2.2.2.2.2.2.2.2.2.2.2.2.2.2.2.2.1
        have h19 := hD.2.2.2.2.2.2.2.2.2.2.2.2.2.2.2.2.2.2.2.1
        have h20 := hD.2.2.2.2.2.2.2.2.2.2.2.2.2.2.2.2.2.2.2.2
        clear hD
        generalize hA : fillL y _ _ = A at hK ⊢
        simp only [fillL, Act.put, List.setIfInBounds_toArray, List.set_cons_zero, List.set_cons_succ, List.getD_cons_zero, List.getD_cons_succ, Is] at hA
        subst hA
        simp only [h0, h1, h2, h3, h4, h5, h6, h7, h8, h9, h10, h11, h12, h13, h14, h15, h16, h17, h18, h19, h20] at hK ⊢
        clear h0 h1 h2 h3 h4 h5 h6 h7 h8 h9 h10 h11 h12 h13 h14 h15 h16 h17 h18 h19 h20
        refine ite_yes (by rfl) ?_
        go_simp
        exact hK _ _ _ rfl (Grew.refl _) (by first | rfl | exact congrArg Value.bool HBL.out)
      refine ⟨?_, ?_⟩
      · intro y w2 hG hD K hK
        simp only [depsH, List.getD_cons_zero, List.getD_cons_succ, Is, and_true] at hD
        have h0 := hD.1
        have h1 := hD.2.1
        have h2 := hD.2.2.1
        have h3 := hD.2.2.2.1
        have h4 := hD.2.2.2.2.1
        have h5 := hD.2.2.2.2.2.1
        have h6 := hD.2.2.2.2.2.2.1
        have h7 := hD.2.2.2.2.2.2.2.1
        have h8 := hD.2.2.2.2.2.2.2.2.1
        have h9 := hD.2.2.2.2.2.2.2.2.2.1
        have h10 := hD.2.2.2.2.2.2.2.2.2.2.1
        have h11 := hD.2.2.2.2.2.2.2.2.2.2.2.1
        have h12 := hD.2.2.2.2.2.2.2.2.2.2.2.2.1
        have h13 := hD.2.2.2.2.2.2.2.2.2.2.2.2.2.1
        have h14 := hD.2.2.2.2.2.2.2.2.2.2.2.2.2.2.1
        have h15 := hD.2.2.2.2.2.2.2.2.2.2.2.2.2.2.2.1
        have h16 := hD.2.2.2.2.2.2.2.2.2.2.2.2.2.2.2.2.1
        have h17 := hD.2.2.2.2.2.2.2.2.2.2.2.2.2.2.2.2.2.1
        have h18 := hD.2.2.2.2.2.2.2.2.2.2.2.2.2.2.2.2.2.2.1
        have h19 := hD.2.2.2.2.2.2.2.2.2.2.2.2.2.2.2.2.2.2.2.1
        have h20 := hD.2.2.2.2.2.2.2.2.2.2.2.2.2.2.2.2.2.2.2.2.1
        have h21 := hD.2.2.2.2.2.2.2.2.2.2.2.2.2.2.2.2.2.2.2.2.2
        clear hD
        generalize hA : fillL y _ _ = A at hK ⊢
        simp only [fillL, Act.put, List.setIfInBounds_toArray, List.set_cons_zero, List.set_cons_succ, List.getD_cons_zero, List.getD_cons_succ, Is] at hA
        subst hA
        simp only [h0, h1, h2, h3, h4, h5, h6, h7, h8, h9, h10, h11, h12, h13, h14, h15, h16, h17, h18, h19, h20, h21] at hK ⊢
        clear h0 h1 h2 h3 h4 h5 h6 h7 h8 h9 h10 h11 h12 h13 h14 h15 h16 h17 h18 h19 h20 h21
        refine ite_yes (by rfl) ?_
        go_simp
        exact hK _ _ _ rfl (Grew.refl _) rfl
      trivial
    · subst e
      have heq := eql_nil
      subst e2
      skip
      go_wp2_with fail
      refine (HIN.out w2).mono ?_
      rintro r u3 ⟨rfl, hgc⟩
      clear c0 c1 c2 c3
      clear e0 e1 e2 e3 e4 e5
      replace HD := Lib.hid (DocAt.grew HD.out hgc)
      replace HT := Lib.hid (NodeAt.grew hgc HT.out)
      replace HRR := Lib.hid (hgc.heap HRR.out)
      replace HRT := Lib.hid (hgc.heap HRT.out)
      replace HG := Lib.hid (HG.out.trans hgc)
      clear hgc
      have c0 := row_cellT HRR.out 0 _ rfl
      have c1 := row_cellT HRR.out 1 _ rfl
      have c2 := row_cellT HRR.out 2 _ rfl
      have c3 := row_cellT HRR.out 3 _ rfl
      have e0 := row_cellT HRT.out 0 _ rfl
      have e1 := row_cellT HRT.out 1 _ rfl
      have e2 := row_cellT HRT.out 2 _ rfl
      have e3 := row_cellT HRT.out 3 _ rfl
      have e4 := row_cellT HRT.out 4 _ rfl
      have e5 := row_cellT HRT.out 5 _ rfl
      go_wp2_with fail
      refine (HNU.out u3 HD.out hp).mono ?_
      rintro r u4 ⟨rfl, hgc⟩
      clear c0 c1 c2 c3
      clear e0 e1 e2 e3 e4 e5
      replace HD := Lib.hid (DocAt.grew HD.out hgc)
      replace HT := Lib.hid (NodeAt.grew hgc HT.out)
      replace HRR := Lib.hid (hgc.heap HRR.out)
      replace HRT := Lib.hid (hgc.heap HRT.out)
      replace HG := Lib.hid (HG.out.trans hgc)
      clear hgc
      have c0 := row_cellT HRR.out 0 _ rfl
      have c1 := row_cellT HRR.out 1 _ rfl
      have c2 := row_cellT HRR.out 2 _ rfl
      have c3 := row_cellT HRR.out 3 _ rfl
      have e0 := row_cellT HRT.out 0 _ rfl
      have e1 := row_cellT HRT.out 1 _ rfl
      have e2 := row_cellT HRT.out 2 _ rfl
      have e3 := row_cellT HRT.out 3 _ rfl
      have e4 := row_cellT HRT.out 4 _ rfl
      have e5 := row_cellT HRT.out 5 _ rfl
      go_upto_region 11 with fail
      cases ni
      · have HV : Hid (res = false) := by show _ = _; rw [HRT2.out]; rfl
        go_quiet (fail)
        have HGF := Lib.hid (HG.out.trans ((Grew.refl u4).drewN nq))
        go_wp2_with fail
        go_ret
        exact ⟨by rw [HV.out]; rfl, HGF.out⟩
      by_cases hle : nv ≤ pos
      rotate_left
      · have HV : Hid (res = false) := by show _ = _; rw [HRT2.out, decide_eq_false hle]; rfl
        have hgt : pos < nv := by omega
        clear hle
        go_quiet (fail)
        have HGF := Lib.hid (HG.out.trans ((Grew.refl u4).drewN nq))
        go_wp2_with fail
        go_ret
        exact ⟨by rw [HV.out]; rfl, HGF.out⟩
      obtain ⟨hb1, hb2, hb3⟩ := HNB.out rfl
      have hws : IntKind.i64.wrap (pos - nv) = pos - nv := by rw [IntKind.wrap_i64]; omega
      have hwa := HWR.out.1
      have hwb : IntKind.i64.wrap (pos - nv - aheadF typ * wid) = pos - nv - aheadF typ * wid := by have := HWR.out.2; rw [IntKind.wrap_i64]; omega
      have HAT : Hid (0 ≤ pos - nv ∧ pos - nv ≤ 1048576) := ⟨by omega, by omega⟩
      have HPN : Hid (0 ≤ nv) := hb3
      have HLE := Lib.hid hle
      clear hb1 hb2 hb3
      obtain ⟨bl, hbl⟩ : ∃ b, decide (lim ≤ pos - nv - aheadF typ * wid) = b := ⟨_, rfl⟩
      have HBL := Lib.hid hbl
      clear hbl
      have HRB : Hid (res = if bl = true then false else if farT typ = true then lookF d typ pos par wid (pos - nv) t else listF d typ wid (pos - nv) t) := by
        show _ = _
        rw [HRT2.out, decide_eq_true hle, ← HBL.out]
        by_cases hlt : pos - nv - aheadF typ * wid < lim
        · rw [decide_eq_true hlt, decide_eq_false (by omega)]; rfl
        · rw [decide_eq_false hlt, decide_eq_true (by omega)]; rfl
      refine wp_region_tables Grew [[], [0], [0, 1], [0, 1, 2], [0, 1, 2], [0, 1, 2, 4], [0, 1, 2, 3, 4, 5], [0, 1, 2, 3, 4, 5, 6], [0, 1, 2, 3, 4, 5, 6, 7], [0, 1, 2, 3, 4, 5, 6, 7, 8], [0, 1, 2, 3, 4, 5, 6, 7, 8, 9], [0, 1, 2, 3, 4, 5, 6, 7, 8], [0, 1, 2, 3, 4, 5, 6, 7, 8, 9, 10, 11], [0, 1, 2, 3, 4, 5, 6, 7, 8], [0, 1, 2, 3, 4, 5, 6, 7, 8, 13], [0, 1, 2, 3, 4, 5, 6, 7, 8, 13, 14], [0, 1, 2, 3, 4, 5, 6, 7, 8], [0, 1, 2, 3, 4, 5, 6, 7, 8, 16], [0, 1, 2, 3, 4, 5, 6, 7, 8, 13, 14, 15, 16, 17], [0, 1, 2, 3, 4, 5, 6, 7, 8, 9, 10, 11, 12, 13, 14, 15, 16, 17, 18], [0, 1, 2, 3, 4, 5, 6, 7, 8], [0, 1, 2, 3, 4, 5, 6, 7, 8, 9, 10, 11, 12, 13, 14, 15, 16, 17, 18, 19, 20], [0, 1, 2, 3, 4, 5, 6, 7, 8, 9, 10, 11, 12, 13, 14, 15, 16, 17, 18, 19, 20, 21]] [[], [(63, 0)], [(63, 0), (64, 1)], [(63, 0), (64, 1), (65, 2), (67, 4), (68, 5)], [(63, 0), (64, 1), (65, 2), (66, 3)], [(63, 0), (64, 1), (65, 2), (66, 3), (67, 4)], [(63, 0), (64, 1), (65, 2), (66, 3), (67, 4), (68, 5)], [(63, 0), (64, 1), (65, 2), (66, 3), (67, 4), (68, 5), (69, 6)], [(63, 0), (64, 1), (65, 2), (66, 3), (67, 4), (68, 5), (69, 6), (70, 7)], [(63, 0), (64, 1), (65, 2), (66, 3), (67, 4), (68, 5), (69, 6), (70, 7), (71, 8), (74, 11), (76, 13), (77, 14), (78, 15), (79, 16), (80, 17), (81, 18), (83, 20)], [(63, 0), (64, 1), (65, 2), (66, 3), (67, 4), (68, 5), (69, 6), (70, 7), (71, 8), (72, 9), (74, 11), (76, 13), (77, 14), (78, 15), (79, 16), (80, 17), (81, 18), (83, 20)], [(63, 0), (64, 1), (65, 2), (66, 3), (67, 4), (68, 5), (69, 6), (70, 7), (71, 8), (72, 9), (73, 10), (76, 13), (77, 14), (78, 15), (79, 16), (80, 17), (81, 18), (83, 20)], [(63, 0), (64, 1), (65, 2), (66, 3), (67, 4), (68, 5), (69, 6), (70, 7), (71, 8), (72, 9), (73, 10), (74, 11), (76, 13), (77, 14), (78, 15), (79, 16), (80, 17), (81, 18), (83, 20)], [(63, 0), (64, 1), (65, 2), (66, 3), (67, 4), (68, 5), (69, 6), (70, 7), (71, 8), (72, 9), (73, 10), (74, 11), (75, 12), (79, 16), (80, 17), (83, 20)], [(63, 0), (64, 1), (65, 2), (66, 3), (67, 4), (68, 5), (69, 6), (70, 7), (71, 8), (72, 9), (73, 10), (74, 11), (75, 12), (76, 13), (79, 16), (80, 17), (83, 20)], [(63, 0), (64, 1), (65, 2), (66, 3), (67, 4), (68, 5), (69, 6), (70, 7), (71, 8), (72, 9), (73, 10), (74, 11), (75, 12), (76, 13), (77, 14), (79, 16), (80, 17), (83, 20)], [(63, 0), (64, 1), (65, 2), (66, 3), (67, 4), (68, 5), (69, 6), (70, 7), (71, 8), (72, 9), (73, 10), (74, 11), (75, 12), (76, 13), (77, 14), (78, 15), (83, 20)], [(63, 0), (64, 1), (65, 2), (66, 3), (67, 4), (68, 5), (69, 6), (70, 7), (71, 8), (72, 9), (73, 10), (74, 11), (75, 12), (76, 13), (77, 14), (78, 15), (79, 16), (83, 20)], [(63, 0), (64, 1), (65, 2), (66, 3), (67, 4), (68, 5), (69, 6), (70, 7), (71, 8), (72, 9), (73, 10), (74, 11), (75, 12), (76, 13), (77, 14), (78, 15), (79, 16), (80, 17), (83, 20)], [(63, 0), (64, 1), (65, 2), (66, 3), (67, 4), (68, 5), (69, 6), (70, 7), (71, 8), (72, 9), (73, 10), (74, 11), (75, 12), (76, 13), (77, 14), (78, 15), (79, 16), (80, 17), (81, 18), (83, 20)], [(63, 0), (64, 1), (65, 2), (66, 3), (67, 4), (68, 5), (69, 6), (70, 7), (71, 8), (72, 9), (73, 10), (74, 11), (75, 12), (76, 13), (77, 14), (78, 15), (79, 16), (80, 17), (81, 18), (82, 19)], [(63, 0), (64, 1), (65, 2), (66, 3), (67, 4), (68, 5), (69, 6), (70, 7), (71, 8), (72, 9), (73, 10), (74, 11), (75, 12), (76, 13), (77, 14), (78, 15), (79, 16), (80, 17), (81, 18), (82, 19), (83, 20)], [(63, 0), (64, 1), (65, 2), (66, 3), (67, 4), (68, 5), (69, 6), (70, 7), (71, 8), (72, 9), (73, 10), (74, 11), (75, 12), (76, 13), (77, 14), (78, 15), (79, 16), (80, 17), (81, 18), (82, 19), (83, 20), (84, 21)]] [(63, 0), (64, 1), (65, 2), (66, 3), (67, 4), (68, 5), (69, 6), (70, 7), (71, 8), (72, 9), (73, 10), (74, 11), (75, 12), (76, 13), (77, 14), (78, 15), (79, 16), (80, 17), (81, 18), (82, 19), (83, 20), (84, 21), (85, 22)]
        [Is (.bool true), Is (.bool false), Is (.bool false), Is (.int .i64 nv), Is (.pointer (some ⟨pr, 0, none⟩)), Is (.int .i64 pos), Is (.bool false), Is (.bool false), Is (.bool false), Is (.pointer (some ⟨pr, 0, none⟩)), Is (.int .i64 pos), Is (.int .i64 nv), Is (.int .i64 (pos - nv)), Is (.pointer (some ⟨pr, 2, none⟩)), Is (.int .i64 typ), Is (.int .i64 (aheadF typ)), Is (.pointer (some ⟨pr, 3, none⟩)), Is (.int .i64 wid), Is (.int .i64 (aheadF typ * wid)), Is (.int .i64 (pos - nv - aheadF typ * wid)), Is (.int .i64 lim), Is (.bool bl), Is (.bool bl)]
        (by kernel_rfl) Grew.trans Grew.refl (Grew.refl _).drew (by kernel_rfl) ⟨is_st, is_st, is_st, is_st, is_st, is_st, is_st, is_st, is_st, is_st, is_st, is_st, is_st, is_st, is_st, is_st, is_st, is_st, is_st, is_st, is_st, is_st, is_st, trivial⟩ ?_ rfl ?_
      rotate_left
      · intro y w2 hG hF
        simp only [factsH, Is, and_true, Nat.reduceAdd] at hF
        have hlast := hF.2.2.2.2.2.2.2.2.2.2.2.2.2.2.2.2.2.2.2.2.2.2
        clear hF
        simp only [fillL, Act.put, List.setIfInBounds_toArray, List.set_cons_zero, List.set_cons_succ, List.getD_cons_zero, List.getD_cons_succ, hlast]
        have hgc := hG
        clear hG hlast
        clear c0 c1 c2 c3
        clear e0 e1 e2 e3 e4 e5
        replace HD := Lib.hid (DocAt.grew HD.out hgc)
        replace HT := Lib.hid (NodeAt.grew hgc HT.out)
        replace HRR := Lib.hid (hgc.heap HRR.out)
        replace HRT := Lib.hid (hgc.heap HRT.out)
        replace HG := Lib.hid (HG.out.trans hgc)
        clear hgc
        have c0 := row_cellT HRR.out 0 _ rfl
        have c1 := row_cellT HRR.out 1 _ rfl
        have c2 := row_cellT HRR.out 2 _ rfl
        have c3 := row_cellT HRR.out 3 _ rfl
        have e0 := row_cellT HRT.out 0 _ rfl
        have e1 := row_cellT HRT.out 1 _ rfl
        have e2 := row_cellT HRT.out 2 _ rfl
        have e3 := row_cellT HRT.out 3 _ rfl
        have e4 := row_cellT HRT.out 4 _ rfl
        have e5 := row_cellT HRT.out 5 _ rfl
        cases bl
        rotate_left
        · have HV : Hid (res = false) := by show _ = _; rw [HRB.out]; rfl
          go_wp2_with fail
          go_ret
          exact ⟨by rw [HV.out]; rfl, HG.out⟩
        have HV : Hid (res = if farT typ = true then lookF d typ pos par wid (pos - nv) t else listF d typ wid (pos - nv) t) := by show _ = _; rw [HRB.out]; rfl
        have hcl := HCALL.out w2 (pos - nv) HD.out HT.out HAT.out
        rw [← HV.out] at hcl
        have HCL := Lib.hid hcl
        clear hcl
        go_wp2_with fail
        refine (HCL.out).mono ?_
        rintro r u5 ⟨rfl, hgc⟩
        replace HD := Lib.hid (DocAt.grew HD.out hgc)
        replace HT := Lib.hid (NodeAt.grew hgc HT.out)
        replace HRR := Lib.hid (hgc.heap HRR.out)
        replace HRT := Lib.hid (hgc.heap HRT.out)
        replace HG := Lib.hid (HG.out.trans hgc)
        clear hgc
        clear c0 c1 c2 c3
        clear e0 e1 e2 e3 e4 e5
        go_wp2_with fail
        go_ret
        exact ⟨rfl, HG.out⟩
      refine ⟨?_, ?_⟩
      · intro y w2 hG hD K hK
        generalize hA : fillL y _ _ = A at hK ⊢
        simp only [fillL, Act.put, List.setIfInBounds_toArray, List.set_cons_zero, List.set_cons_succ, List.getD_cons_zero, List.getD_cons_succ, Is] at hA
        subst hA
        refine ite_yes (by rfl) ?_
        go_simp
        exact hK _ _ _ rfl (Grew.refl _) rfl
      refine ⟨?_, ?_⟩
      · intro y w2 hG hD K hK
        simp only [depsH, List.getD_cons_zero, List.getD_cons_succ, Is, and_true] at hD
        have h0 := hD
        clear hD
        generalize hA : fillL y _ _ = A at hK ⊢
        simp only [fillL, Act.put, List.setIfInBounds_toArray, List.set_cons_zero, List.set_cons_succ, List.getD_cons_zero, List.getD_cons_succ, Is] at hA
        subst hA
        simp only [h0] at hK ⊢
        clear h0
        refine ite_yes (by rfl) ?_
        go_simp
        exact hK _ _ _ rfl (Grew.refl _) rfl
      refine ⟨?_, ?_⟩
      · intro y w2 hG hD K hK
        simp only [depsH, List.getD_cons_zero, List.getD_cons_succ, Is, and_true] at hD
        have h0 := hD.1
        have h1 := hD.2
        clear hD
        generalize hA : fillL y _ _ = A at hK ⊢
        simp only [fillL, Act.put, List.setIfInBounds_toArray, List.set_cons_zero, List.set_cons_succ, List.getD_cons_zero, List.getD_cons_succ, Is] at hA
        subst hA
        simp only [h0, h1] at hK ⊢
        clear h0 h1
        refine ite_yes (by rfl) ?_
        go_simp
        exact hK _ _ _ rfl (Grew.refl _) rfl
      refine ⟨?_, ?_⟩
      · intro y w2 hG hD K hK
        simp only [depsH, List.getD_cons_zero, List.getD_cons_succ, Is, and_true] at hD
        have h0 := hD.1
        have h1 := hD.2.1
        have h2 := hD.2.2
        clear hD
        generalize hA : fillL y _ _ = A at hK ⊢
        simp only [fillL, Act.put, List.setIfInBounds_toArray, List.set_cons_zero, List.set_cons_succ, List.getD_cons_zero, List.getD_cons_succ, Is] at hA
        subst hA
        simp only [h0, h1, h2] at hK ⊢
        clear h0 h1 h2
        refine ite_yes (by rfl) ?_
        go_simp
        exact hK _ _ _ rfl (Grew.refl _) rfl
      refine ⟨?_, ?_⟩
      · intro y w2 hG hD K hK
        simp only [depsH, List.getD_cons_zero, List.getD_cons_succ, Is, and_true] at hD
        have h0 := hD.1
        have h1 := hD.2.1
        have h2 := hD.2.2
        clear hD
        generalize hA : fillL y _ _ = A at hK ⊢
        simp only [fillL, Act.put, List.setIfInBounds_toArray, List.set_cons_zero, List.set_cons_succ, List.getD_cons_zero, List.getD_cons_succ, Is] at hA
        subst hA
        simp only [h0, h1, h2] at hK ⊢
        clear h0 h1 h2
        refine ite_yes (by rfl) ?_
        go_simp
        exact hK _ _ _ rfl (Grew.refl _) rfl
      refine ⟨?_, ?_⟩
      · intro y w2 hG hD K hK
        simp only [depsH, List.getD_cons_zero, List.getD_cons_succ, Is, and_true] at hD
        have h0 := hD.1
        have h1 := hD.2.1
        have h2 := hD.2.2.1
        have h4 := hD.2.2.2
        clear hD
        have dc0 := hG.cell c0
        have dc1 := hG.cell c1
        have dc2 := hG.cell c2
        have dc3 := hG.cell c3
        generalize hA : fillL y _ _ = A at hK ⊢
        simp only [fillL, Act.put, List.setIfInBounds_toArray, List.set_cons_zero, List.set_cons_succ, List.getD_cons_zero, List.getD_cons_succ, Is] at hA
        subst hA
        simp only [h0, h1, h2, h4] at hK ⊢
        clear h0 h1 h2 h4
        refine ite_yes (by rfl) ?_
        go_simp
        exact hK _ _ _ rfl (Grew.refl _) rfl
      refine ⟨?_, ?_⟩
      · intro y w2 hG hD K hK
        simp only [depsH, List.getD_cons_zero, List.getD_cons_succ, Is, and_true] at hD
        have h0 := hD.1
        have h1 := hD.2.1
        have h2 := hD.2.2.1
        have h3 := hD.2.2.2.1
        have h4 := hD.2.2.2.2.1
        have h5 := hD.2.2.2.2.2
        clear hD
        generalize hA : fillL y _ _ = A at hK ⊢
        simp only [fillL, Act.put, List.setIfInBounds_toArray, List.set_cons_zero, List.set_cons_succ, List.getD_cons_zero, List.getD_cons_succ, Is] at hA
        subst hA
        simp only [h0, h1, h2, h3, h4, h5] at hK ⊢
        clear h0 h1 h2 h3 h4 h5
        refine ite_yes (by rfl) ?_
        go_simp
        exact hK _ _ _ rfl (Grew.refl _) (by first | rfl | exact congrArg Value.bool (decide_eq_false (by omega)))
      refine ⟨?_, ?_⟩
      · intro y w2 hG hD K hK
        simp only [depsH, List.getD_cons_zero, List.getD_cons_succ, Is, and_true] at hD
        have h0 := hD.1
        have h1 := hD.2.1
        have h2 := hD.2.2.1
        have h3 := hD.2.2.2.1
        have h4 := hD.2.2.2.2.1
        have h5 := hD.2.2.2.2.2.1
        have h6 := hD.2.2.2.2.2.2
        clear hD
        generalize hA : fillL y _ _ = A at hK ⊢
        simp only [fillL, Act.put, List.setIfInBounds_toArray, List.set_cons_zero, List.set_cons_succ, List.getD_cons_zero, List.getD_cons_succ, Is] at hA
        subst hA
        simp only [h0, h1, h2, h3, h4, h5, h6] at hK ⊢
        clear h0 h1 h2 h3 h4 h5 h6
        refine ite_yes (by rfl) ?_
        go_simp
        exact hK _ _ _ rfl (Grew.refl _) rfl
      refine ⟨?_, ?_⟩
      · intro y w2 hG hD K hK
        simp only [depsH, List.getD_cons_zero, List.getD_cons_succ, Is, and_true] at hD
        have h0 := hD.1
        have h1 := hD.2.1
        have h2 := hD.2.2.1
        have h3 := hD.2.2.2.1
        have h4 := hD.2.2.2.2.1
        have h5 := hD.2.2.2.2.2.1
        have h6 := hD.2.2.2.2.2.2.1
        have h7 := hD.2.2.2.2.2.2.2
        clear hD
        generalize hA : fillL y _ _ = A at hK ⊢
        simp only [fillL, Act.put, List.setIfInBounds_toArray, List.set_cons_zero, List.set_cons_succ, List.getD_cons_zero, List.getD_cons_succ, Is] at hA
        subst hA
        simp only [h0, h1, h2, h3, h4, h5, h6, h7] at hK ⊢
        clear h0 h1 h2 h3 h4 h5 h6 h7
        refine ite_yes (by rfl) ?_
        go_simp
        exact hK _ _ _ rfl (Grew.refl _) rfl
      refine ⟨?_, ?_⟩
      · intro y w2 hG hD K hK
        simp only [depsH, List.getD_cons_zero, List.getD_cons_succ, Is, and_true] at hD
        have h0 := hD.1
        have h1 := hD.2.1
        have h2 := hD.2.2.1
        have h3 := hD.2.2.2.1
        have h4 := hD.2.2.2.2.1
        have h5 := hD.2.2.2.2.2.1
        have h6 := hD.2.2.2.2.2.2.1
        have h7 := hD.2.2.2.2.2.2.2.1
        have h8 := hD.2.2.2.2.2.2.2.2
        clear hD
        generalize hA : fillL y _ _ = A at hK ⊢
        simp only [fillL, Act.put, List.setIfInBounds_toArray, List.set_cons_zero, List.set_cons_succ, List.getD_cons_zero, List.getD_cons_succ, Is] at hA
        subst hA
        simp only [h0, h1, h2, h3, h4, h5, h6, h7, h8] at hK ⊢
        clear h0 h1 h2 h3 h4 h5 h6 h7 h8
        refine ite_yes (by rfl) ?_
        go_simp
        exact hK _ _ _ rfl (Grew.refl _) rfl
      refine ⟨?_, ?_⟩
      · intro y w2 hG hD K hK
        simp only [depsH, List.getD_cons_zero, List.getD_cons_succ, Is, and_true] at hD
        have h0 := hD.1
        have h1 := hD.2.1
        have h2 := hD.2.2.1
        have h3 := hD.2.2.2.1
        have h4 := hD.2.2.2.2.1
        have h5 := hD.2.2.2.2.2.1
        have h6 := hD.2.2.2.2.2.2.1
        have h7 := hD.2.2.2.2.2.2.2.1
        have h8 := hD.2.2.2.2.2.2.2.2.1
        have h9 := hD.2.2.2.2.2.2.2.2.2
        clear hD
        have dc0 := hG.cell c0
        have dc1 := hG.cell c1
        have dc2 := hG.cell c2
        have dc3 := hG.cell c3
        generalize hA : fillL y _ _ = A at hK ⊢
        simp only [fillL, Act.put, List.setIfInBounds_toArray, List.set_cons_zero, List.set_cons_succ, List.getD_cons_zero, List.getD_cons_succ, Is] at hA
        subst hA
        simp only [h0, h1, h2, h3, h4, h5, h6, h7, h8, h9] at hK ⊢
        clear h0 h1 h2 h3 h4 h5 h6 h7 h8 h9
        refine ite_yes (by rfl) ?_
        go_simp
        exact hK _ _ _ rfl (Grew.refl _) rfl
      refine ⟨?_, ?_⟩
      · intro y w2 hG hD K hK
        simp only [depsH, List.getD_cons_zero, List.getD_cons_succ, Is, and_true] at hD
        have h0 := hD.1
        have h1 := hD.2.1
        have h2 := hD.2.2.1
        have h3 := hD.2.2.2.1
        have h4 := hD.2.2.2.2.1
        have h5 := hD.2.2.2.2.2.1
        have h6 := hD.2.2.2.2.2.2.1
        have h7 := hD.2.2.2.2.2.2.2.1
        have h8 := hD.2.2.2.2.2.2.2.2
        clear hD
        generalize hA : fillL y _ _ = A at hK ⊢
        simp only [fillL, Act.put, List.setIfInBounds_toArray, List.set_cons_zero, List.set_cons_succ, List.getD_cons_zero, List.getD_cons_succ, Is] at hA
        subst hA
        simp only [h0, h1, h2, h3, h4, h5, h6, h7, h8] at hK ⊢
        clear h0 h1 h2 h3 h4 h5 h6 h7 h8
        refine ite_yes (by rfl) ?_
        go_simp
        exact hK _ _ _ rfl (Grew.refl _) rfl
      refine ⟨?_, ?_⟩
      · intro y w2 hG hD K hK
        simp only [depsH, List.getD_cons_zero, List.getD_cons_succ, Is, and_true] at hD
        have h0 := hD.1
        have h1 := hD.2.1
        have h2 := hD.2.2.1
        have h3 := hD.2.2.2.1
        have h4 := hD.2.2.2.2.1
        have h5 := hD.2.2.2.2.2.1
        have h6 := hD.2.2.2.2.2.2.1
        have h7 := hD.2.2.2.2.2.2.2.1
        have h8 := hD.2.2.2.2.2.2.2.2.1
        have h9 := hD.2.2.2.2.2.2.2.2.2.1
        have h10 := hD.2.2.2.2.2.2.2.2.2.2.1
        have h11 := hD.2.2.2.2.2.2.2.2.2.2.2
        clear hD
        generalize hA : fillL y _ _ = A at hK ⊢
        simp only [fillL, Act.put, List.setIfInBounds_toArray, List.set_cons_zero, List.set_cons_succ, List.getD_cons_zero, List.getD_cons_succ, Is] at hA
        subst hA
        simp only [h0, h1, h2, h3, h4, h5, h6, h7, h8, h9, h10, h11] at hK ⊢
        clear h0 h1 h2 h3 h4 h5 h6 h7 h8 h9 h10 h11
        refine ite_yes (by rfl) ?_
        go_simp
        exact hK _ _ _ rfl (Grew.refl _) rfl
      refine ⟨?_, ?_⟩
      · intro y w2 hG hD K hK
        simp only [depsH, List.getD_cons_zero, List.getD_cons_succ, Is, and_true] at hD
        have h0 := hD.1
        have h1 := hD.2.1
        have h2 := hD.2.2.1
        have h3 := hD.2.2.2.1
        have h4 := hD.2.2.2.2.1
        have h5 := hD.2.2.2.2.2.1
        have h6 := hD.2.2.2.2.2.2.1
        have h7 := hD.2.2.2.2.2.2.2.1
        have h8 := hD.2.2.2.2.2.2.2.2
        clear hD
        generalize hA : fillL y _ _ = A at hK ⊢
        simp only [fillL, Act.put, List.setIfInBounds_toArray, List.set_cons_zero, List.set_cons_succ, List.getD_cons_zero, List.getD_cons_succ, Is] at hA
        subst hA
        simp only [h0, h1, h2, h3, h4, h5, h6, h7, h8] at hK ⊢
        clear h0 h1 h2 h3 h4 h5 h6 h7 h8
        refine ite_yes (by rfl) ?_
        go_simp
        exact hK _ _ _ rfl (Grew.refl _) rfl
      refine ⟨?_, ?_⟩
      · intro y w2 hG hD K hK
        simp only [depsH, List.getD_cons_zero, List.getD_cons_succ, Is, and_true] at hD
        have h0 := hD.1
        have h1 := hD.2.1
        have h2 := hD.2.2.1
        have h3 := hD.2.2.2.1
        have h4 := hD.2.2.2.2.1
        have h5 := hD.2.2.2.2.2.1
        have h6 := hD.2.2.2.2.2.2.1
        have h7 := hD.2.2.2.2.2.2.2.1
        have h8 := hD.2.2.2.2.2.2.2.2.1
        have h13 := hD.2.2.2.2.2.2.2.2.2
        clear hD
        have dc0 := hG.cell c0
        have dc1 := hG.cell c1
        have dc2 := hG.cell c2
        have dc3 := hG.cell c3
        generalize hA : fillL y _ _ = A at hK ⊢
        simp only [fillL, Act.put, List.setIfInBounds_toArray, List.set_cons_zero, List.set_cons_succ, List.getD_cons_zero, List.getD_cons_succ, Is] at hA
        subst hA
        simp only [h0, h1, h2, h3, h4, h5, h6, h7, h8, h13] at hK ⊢
        clear h0 h1 h2 h3 h4 h5 h6 h7 h8 h13
        refine ite_yes (by rfl) ?_
        go_simp
        exact hK _ _ _ rfl (Grew.refl _) rfl
      refine ⟨?_, ?_⟩
      · intro y w2 hG hD K hK
        simp only [depsH, List.getD_cons_zero, List.getD_cons_succ, Is, and_true] at hD
        have h0 := hD.1
        have h1 := hD.2.1
        have h2 := hD.2.2.1
        have h3 := hD.2.2.2.1
        have h4 := hD.2.2.2.2.1
        have h5 := hD.2.2.2.2.2.1
        have h6 := hD.2.2.2.2.2.2.1
        have h7 := hD.2.2.2.2.2.2.2.1
        have h8 := hD.2.2.2.2.2.2.2.2.1
        have h13 := hD.2.2.2.2.2.2.2.2.2.1
        have h14 := hD.2.2.2.2.2.2.2.2.2.2
        clear hD
        generalize hA : fillL y _ _ = A at hK ⊢
        simp only [fillL, Act.put, List.setIfInBounds_toArray, List.set_cons_zero, List.set_cons_succ, List.getD_cons_zero, List.getD_cons_succ, Is] at hA
        subst hA
        simp only [h0, h1, h2, h3, h4, h5, h6, h7, h8, h13, h14] at hK ⊢
        clear h0 h1 h2 h3 h4 h5 h6 h7 h8 h13 h14
        refine ite_yes (by rfl) ?_
        go_simp
        refine (ahead_any typ w2).mono ?_
        rintro r w3 ⟨rfl, hg3⟩
        exact hK _ _ _ rfl hg3 rfl
      refine ⟨?_, ?_⟩
      · intro y w2 hG hD K hK
        simp only [depsH, List.getD_cons_zero, List.getD_cons_succ, Is, and_true] at hD
        have h0 := hD.1
        have h1 := hD.2.1
        have h2 := hD.2.2.1
        have h3 := hD.2.2.2.1
        have h4 := hD.2.2.2.2.1
        have h5 := hD.2.2.2.2.2.1
        have h6 := hD.2.2.2.2.2.2.1
        have h7 := hD.2.2.2.2.2.2.2.1
        have h8 := hD.2.2.2.2.2.2.2.2
        clear hD
        generalize hA : fillL y _ _ = A at hK ⊢
        simp only [fillL, Act.put, List.setIfInBounds_toArray, List.set_cons_zero, List.set_cons_succ, List.getD_cons_zero, List.getD_cons_succ, Is] at hA
        subst hA
        simp only [h0, h1, h2, h3, h4, h5, h6, h7, h8] at hK ⊢
        clear h0 h1 h2 h3 h4 h5 h6 h7 h8
        refine ite_yes (by rfl) ?_
        go_simp
        exact hK _ _ _ rfl (Grew.refl _) rfl
      refine ⟨?_, ?_⟩
      · intro y w2 hG hD K hK
        simp only [depsH, List.getD_cons_zero, List.getD_cons_succ, Is, and_true] at hD
        have h0 := hD.1
        have h1 := hD.2.1
        have h2 := hD.2.2.1
        have h3 := hD.2.2.2.1
        have h4 := hD.2.2.2.2.1
        have h5 := hD.2.2.2.2.2.1
        have h6 := hD.2.2.2.2.2.2.1
        have h7 := hD.2.2.2.2.2.2.2.1
        have h8 := hD.2.2.2.2.2.2.2.2.1
        have h16 := hD.2.2.2.2.2.2.2.2.2
        clear hD
        have dc0 := hG.cell c0
        have dc1 := hG.cell c1
        have dc2 := hG.cell c2
        have dc3 := hG.cell c3
        generalize hA : fillL y _ _ = A at hK ⊢
        simp only [fillL, Act.put, List.setIfInBounds_toArray, List.set_cons_zero, List.set_cons_succ, List.getD_cons_zero, List.getD_cons_succ, Is] at hA
        subst hA
        simp only [h0, h1, h2, h3, h4, h5, h6, h7, h8, h16] at hK ⊢
        clear h0 h1 h2 h3 h4 h5 h6 h7 h8 h16
        refine ite_yes (by rfl) ?_
        go_simp
        exact hK _ _ _ rfl (Grew.refl _) rfl
      refine ⟨?_, ?_⟩
      · intro y w2 hG hD K hK
        simp only [depsH, List.getD_cons_zero, List.getD_cons_succ, Is, and_true] at hD
        have h0 := hD.1
        have h1 := hD.2.1
        have h2 := hD.2.2.1
        have h3 := hD.2.2.2.1
        have h4 := hD.2.2.2.2.1
        have h5 := hD.2.2.2.2.2.1
        have h6 := hD.2.2.2.2.2.2.1
        have h7 := hD.2.2.2.2.2.2.2.1
        have h8 := hD.2.2.2.2.2.2.2.2.1
        have h13 := hD.2.2.2.2.2.2.2.2.2.1
        have h14 := hD.2.2.2.2.2.2.2.2.2.2.1
        have h15 := hD.2.2.2.2.2.2.2.2.2.2.2.1
        have h16 := hD.2.2.2.2.2.2.2.2.2.2.2.2.1
        have h17 := hD.2.2.2.2.2.2.2.2.2.2.2.2.2
        clear hD
        generalize hA : fillL y _ _ = A at hK ⊢
        simp only [fillL, Act.put, List.setIfInBounds_toArray, List.set_cons_zero, List.set_cons_succ, List.getD_cons_zero, List.getD_cons_succ, Is] at hA
        subst hA
        simp only [h0, h1, h2, h3, h4, h5, h6, h7, h8, h13, h14, h15, h16, h17] at hK ⊢
        clear h0 h1 h2 h3 h4 h5 h6 h7 h8 h13 h14 h15 h16 h17
        refine ite_yes (by rfl) ?_
        go_simp
        exact hK _ _ _ rfl (Grew.refl _) rfl
      refine ⟨?_, ?_⟩
      · intro y w2 hG hD K hK
        simp only [depsH, List.getD_cons_zero, List.getD_cons_succ, Is, and_true] at hD
        have h0 := hD.1
        have h1 := hD.2.1
        have h2 := hD.2.2.1
        have h3 := hD.2.2.2.1
        have h4 := hD.2.2.2.2.1
        have h5 := hD.2.2.2.2.2.1
        have h6 := hD.2.2.2.2.2.2.1
        have h7 := hD.2.2.2.2.2.2.2.1
        have h8 := hD.2.2.2.2.2.2.2.2.1
        have h9 := hD.2.2.2.2.2.2.2.2.2.1
        have h10 := hD.2.2.2.2.2.2.2.2.2.2.1
        have h11 := hD.2.2.2.2.2.2.2.2.2.2.2.1
        have h12 := hD.2.2.2.2.2.2.2.2.2.2.2.2.1
        have h13 := hD.2.2.2.2.2.2.2.2.2.2.2.2.2.1
        have h14 := hD.2.2.2.2.2.2.2.2.2.2.2.2.2.2.1
        have h15 := hD.2.2.2.2.2.2.2.2.2.2.2.2.2.2.2.1
        have h16 := hD.2.2.2.2.2.2.2.2.2.2.2.2.2.2.2.2.1
        have h17 := hD.2.2.2.2.2.2.2.2.2.2.2.2.2.2.2.2.2.1
        have h18 := hD.2.2.2.2.2.2.2.2.2.2.2.2.2.2.2.2.2.2
        clear hD
        generalize hA : fillL y _ _ = A at hK ⊢
        simp only [fillL, Act.put, List.setIfInBounds_toArray, List.set_cons_zero, List.set_cons_succ, List.getD_cons_zero, List.getD_cons_succ, Is] at hA
        subst hA
        simp only [h0, h1, h2, h3, h4, h5, h6, h7, h8, h9, h10, h11, h12, h13, h14, h15, h16, h17, h18] at hK ⊢
        clear h0 h1 h2 h3 h4 h5 h6 h7 h8 h9 h10 h11 h12 h13 h14 h15 h16 h17 h18
        refine ite_yes (by rfl) ?_
        go_simp
        exact hK _ _ _ rfl (Grew.refl _) rfl
      refine ⟨?_, ?_⟩
      · intro y w2 hG hD K hK
        simp only [depsH, List.getD_cons_zero, List.getD_cons_succ, Is, and_true] at hD
        have h0 := hD.1
        have h1 := hD.2.1
        have h2 := hD.2.2.1
        have h3 := hD.2.2.2.1
        have h4 := hD.2.2.2.2.1
        have h5 := hD.2.2.2.2.2.1
        have h6 := hD.2.2.2.2.2.2.1
        have h7 := hD.2.2.2.2.2.2.2.1
        have h8 := hD.2.2.2.2.2.2.2.2
        clear hD
        generalize hA : fillL y _ _ = A at hK ⊢
        simp only [fillL, Act.put, List.setIfInBounds_toArray, List.set_cons_zero, List.set_cons_succ, List.getD_cons_zero, List.getD_cons_succ, Is] at hA
        subst hA
        simp only [h0, h1, h2, h3, h4, h5, h6, h7, h8] at hK ⊢
        clear h0 h1 h2 h3 h4 h5 h6 h7 h8
        refine ite_yes (by rfl) ?_
        go_simp
        exact hK _ _ _ rfl (Grew.refl _) rfl
      refine ⟨?_, ?_⟩
      · intro y w2 hG hD K hK
        simp only [depsH, List.getD_cons_zero, List.getD_cons_succ, Is, and_true] at hD
        have h0 := hD.1
        have h1 := hD.2.1
        have h2 := hD.2.2.1
        have h3 := hD.2.2.2.1
        have h4 := hD.2.2.2.2.1
        have h5 := hD.2.2.2.2.2.1
        have h6 := hD.2.2.2.2.2.2.1
        have h7 := hD.2.2.2.2.2.2.2.1
        have h8 := hD.2.2.2.2.2.2.2.2.1
        have h9 := hD.2.2.2.2.2.2.2.2.2.1
        have h10 := hD.2.2.2.2.2.2.2.2.2.2.1
        have h11 := hD.2.2.2.2.2.2.2.2.2.2.2.1
        have h12 := hD.2.2.2.2.2.2.2.2.2.2.2.2.1
        have h13 := hD.2.2.2.2.2.2.2.2.2.2.2.2.2.1
        have h14 := hD.2.2.2.2.2.2.2.2.2.2.2.2.2.2.1
        have h15 := hD.2.2.2.2.2.2.2.2.2.2.2.2.2.2.2.1
        have h16 := hD.2.2.2.2.2.2.2.2.2.2.2.2.2.2.2.2.1
        have h17 := hD.2.2.2.2.2.2.2.2.2.2.2.2.2.2.2.2.2.1
        have h18 := hD.2.2.2.2.2.2.2.2.2.2.2.2.2.2.2.2.2.2.1
        have h19 := hD.2.2.2.2.2.2.2.2.2.2.2.2.2.2.2.2.2.2.2.1
        have h20 := hD.2.2.2.2.2.2.2.2.2.2.2.2.2.2.2.2.2.2.2.2
        clear hD
        generalize hA : fillL y _ _ = A at hK ⊢
        simp only [fillL, Act.put, List.setIfInBounds_toArray, List.set_cons_zero, List.set_cons_succ, List.getD_cons_zero, List.getD_cons_succ, Is] at hA
        subst hA
        simp only [h0, h1, h2, h3, h4, h5, h6, h7, h8, h9, h10, h11, h12, h13, h14, h15, h16, h17, h18, h19, h20] at hK ⊢
        clear h0 h1 h2 h3 h4 h5 h6 h7 h8 h9 h10 h11 h12 h13 h14 h15 h16 h17 h18 h19 h20
        refine ite_yes (by rfl) ?_
        go_simp
        exact hK _ _ _ rfl (Grew.refl _) (by first | rfl | exact congrArg Value.bool HBL.out)
      refine ⟨?_, ?_⟩
      · intro y w2 hG hD K hK
        simp only [depsH, List.getD_cons_zero, List.getD_cons_succ, Is, and_true] at hD
        have h0 := hD.1
        have h1 := hD.2.1
        have h2 := hD.2.2.1
        have h3 := hD.2.2.2.1
        have h4 := hD.2.2.2.2.1
        have h5 := hD.2.2.2.2.2.1
        have h6 := hD.2.2.2.2.2.2.1
        have h7 := hD.2.2.2.2.2.2.2.1
        have h8 := hD.2.2.2.2.2.2.2.2.1
        have h9 := hD.2.2.2.2.2.2.2.2.2.1
        have h10 := hD.2.2.2.2.2.2.2.2.2.2.1
        have h11 := hD.2.2.2.2.2.2.2.2.2.2.2.1
        have h12 := hD.2.2.2.2.2.2.2.2.2.2.2.2.1
        have h13 := hD.2.2.2.2.2.2.2.2.2.2.2.2.2.1
        have h14 := hD.2.2.2.2.2.2.2.2.2.2.2.2.2.2.1
        have h15 := hD.2.2.2.2.2.2.2.2.2.2.2.2.2.2.2.1
        have h16 := hD.2.2.2.2.2.2.2.2.2.2.2.2.2.2.2.2.1
        have h17 := hD.2.2.2.2.2.2.2.2.2.2.2.2.2.2.2.2.2.1
        have h18 := hD.2.2.2.2.2.2.2.2.2.2.2.2.2.2.2.2.2.2.1
        have h19 := hD.2.2.2.2.2.2.2.2.2.2.2.2.2.2.2.2.2.2.2.1
        have h20 := hD.2.2.2.2.2.2.2.2.2.2.2.2.2.2.2.2.2.2.2.2.1
        have h21 := hD.2.2.2.2.2.2.2.2.2.2.2.2.2.2.2.2.2.2.2.2.2
        clear hD
        generalize hA : fillL y _ _ = A at hK ⊢
        simp only [fillL, Act.put, List.setIfInBounds_toArray, List.set_cons_zero, List.set_cons_succ, List.getD_cons_zero, List.getD_cons_succ, Is] at hA
        subst hA
        simp only [h0, h1, h2, h3, h4, h5, h6, h7, h8, h9, h10, h11, h12, h13, h14, h15, h16, h17, h18, h19, h20, h21] at hK ⊢
        clear h0 h1 h2 h3 h4 h5 h6 h7 h8 h9 h10 h11 h12 h13 h14 h15 h16 h17 h18 h19 h20 h21
        refine ite_yes (by rfl) ?_
        go_simp
        exact hK _ _ _ rfl (Grew.refl _) rfl
      trivial
  refine ⟨?_, ?_⟩
  · intro y w2 hG hD K hK
    simp only [fillL, Act.put, List.setIfInBounds_toArray, List.set_cons_zero, List.set_cons_succ, List.getD_cons_zero, List.getD_cons_succ, Is] at hK ⊢
    refine ite_yes (by rfl) ?_
    go_simp
    refine (looks_any w2).mono ?_
    rintro r w3 ⟨b, rfl, _, hm, hg3⟩
    exact hK _ _ _ rfl hg3 ⟨b, rfl, hm⟩
  refine ⟨?_, ?_⟩
  · intro y w2 hG hD K hK
    simp only [fillL, Act.put, List.setIfInBounds_toArray, List.set_cons_zero, List.set_cons_succ, List.getD_cons_zero, List.getD_cons_succ, Is] at hK ⊢
    refine ite_yes (by rfl) ?_
    go_simp
    exact hK _ _ _ rfl (Grew.refl _) rfl
  refine ⟨?_, ?_⟩
  · intro y w2 hG hD K hK
    simp only [depsH, List.getD_cons_zero, List.getD_cons_succ, Is, and_true] at hD
    have h1 := hD
    clear hD
    have dc0 := hG.cell c0
    have dc1 := hG.cell c1
    have dc2 := hG.cell c2
    have dc3 := hG.cell c3
    simp only [fillL, Act.put, List.setIfInBounds_toArray, List.set_cons_zero, List.set_cons_succ, List.getD_cons_zero, List.getD_cons_succ, Is] at hK ⊢
    simp only [h1] at hK ⊢
    clear h1
    refine ite_yes (by rfl) ?_
    go_simp
    exact hK _ _ _ rfl (Grew.refl _) rfl
  refine ⟨?_, ?_⟩
  · intro y w2 hG hD K hK
    simp only [depsH, List.getD_cons_zero, List.getD_cons_succ, Is, and_true] at hD
    have h0 := hD.1
    have h1 := hD.2.1
    have h2 := hD.2.2
    clear hD
    simp only [fillL, Act.put, List.setIfInBounds_toArray, List.set_cons_zero, List.set_cons_succ, List.getD_cons_zero, List.getD_cons_succ, Is] at hK ⊢
    simp only [h1, h2] at hK ⊢
    clear h1 h2
    refine ite_yes (by rfl) ?_
    obtain ⟨b, eb, hm⟩ := h0
    rw [eb] at hK ⊢
    have hz := zero_look w2
    have hlk := lookI w2 Try.underlying68 Try.underlying3 hz b looksL hm typ
    replace hlk := hlk.trans (congrArg (fun v => Result.ok v w2) HLV.out)
    go_simp
    exact hK _ _ _ rfl (Grew.refl _) rfl
  refine ⟨?_, ?_⟩
  · intro y w2 hG hD K hK
    simp only [depsH, List.getD_cons_zero, List.getD_cons_succ, Is, and_true] at hD
    have h0 := hD.1
    have h1 := hD.2.1
    have h2 := hD.2.2.1
    have h3 := hD.2.2.2
    clear hD
    simp only [fillL, Act.put, List.setIfInBounds_toArray, List.set_cons_zero, List.set_cons_succ, List.getD_cons_zero, List.getD_cons_succ, Is] at hK ⊢
    simp only [h1, h2, h3] at hK ⊢
    clear h1 h2 h3
    refine ite_yes (by rfl) ?_
    go_simp
    exact hK _ _ _ rfl (Grew.refl _) rfl
  trivial
end Go.Proofs.Ytlhliolknaopjaa

/-
  Keys: comparing lists of ints.
-/
namespace Go.Proofs.Ytlhliolknaopjaa
open Go Go.ChangeShapes Go.WideShapes Go.ChangeAt Go.RowKit Go.Joins Go.Deep
set_option linter.unusedVariables false
set_option linter.unusedSimpArgs false

/-- A slice of ints, read. -/
def RowI (w : World) (v : Value) (l : List Int) : Prop :=
  ∃ a c, v = .slice a l.length c ∧ l.length ≤ c ∧ lenok c ∧ (a = none → c = 0) ∧ ∀ (i : Nat) (x : Int), l[i]? = some x → True ∧ ∃ b off, a = some ⟨b, off, none⟩ ∧ w.cell? ⟨b, off + i, none⟩ = some (.int .i64 x)
end Go.Proofs.Ytlhliolknaopjaa

/-
  Trees: whether a node is as its kind requires (such). Conditions: the node lies in memory.
-/
namespace Go.Proofs.Ytlhliolknaopjaa
open Go Go.ChangeShapes Go.WideShapes Go.ChangeAt Go.RowKit Go.Joins Go.Deep
set_option linter.unusedVariables false
set_option linter.unusedSimpArgs false

/-- The program's rule for a node (P6.1 but for a child of Kind -1). -/
def suchB : Tr → Bool
  | .mk k n u s keys l => decide (1 ≤ k ∧ k ≤ 17) && (decide (usesF k = 1) || decide (n = 0)) && (decide (usesF k = 2) || decide (u = 0)) && (decide (usesF k = 4) || decide (s.toList = [])) && (decide (usesF k = 8) || decide (keys.length = 0)) &&
      (!decide (k = 2) || decide (n = 0) || decide (n = 1)) && (!decide (k = 17) || decide (keys.length = l.length)) && (!(decide (k = 15) || decide (k = 16)) || decide (2 ≤ l.length ∧ l.length ≤ 4)) && !(l.any (otherB (partF k)))
set_option maxRecDepth 100000 in
set_option maxHeartbeats 8000000 in
theorem such_any (t : Tr) (v : Value) (w : World) (hn : NodeAt w t v) :
    Calls Try.prog 38 #[v] w fun r w' => r = .returned (.bool (suchB t)) ∧ Grew w w' := by
  obtain ⟨k, n, u, s, keys, l⟩ := t
  simp only [NodeAt] at hn
  obtain ⟨hb, kv, lv, vs, rfl, hks, hrows, hkids⟩ := hn
  have hkl := hkids.length
  have HK := Lib.hid hkids
  obtain ⟨a4, c4, rfl, hkc, hkm, hx3, hx4⟩ := hks
  have HROWS := Lib.hid hrows
  obtain ⟨a5, c5, rfl, hll, hc5, hx5, hx6⟩ := hrows
  rw [hkl] at HROWS hll ⊢
  have hlen : l.length ≤ 9223372036854775807 := by unfold lenok at hc5; omega
  have hkeys : keys.length ≤ 9223372036854775807 := by unfold lenok at hkm; omega
  clear hx3 hx4 hx5 hx6 hll hc5 hkl hkids hkc hkm hb
  by_cases h1 : 1 ≤ k
  rotate_left
  · have HF : Hid (suchB (.mk k n u s keys l) = false) := by show _ = _; simp [suchB, h1]
    have hlt : k < 1 := by omega
    clear h1
    go_enter Try.func38, Try.ntmps38
    go_wp2_with fail
    go_ret
    exact ⟨by rw [HF.out]; rfl, (Grew.refl w).alloc _⟩
  by_cases h2 : k ≤ 17
  rotate_left
  · have HF : Hid (suchB (.mk k n u s keys l) = false) := by show _ = _; simp [suchB, h2]
    have hlt : ¬ k < 1 := by omega
    have hgt : 17 < k := by omega
    clear h1 h2
    go_enter Try.func38, Try.ntmps38
    go_wp2_with fail
    go_ret
    exact ⟨by rw [HF.out]; rfl, (Grew.refl w).alloc _⟩
  have hlt : ¬ k < 1 := by omega
  have hgt : ¬ 17 < k := by omega
  have H12 := Lib.hid (And.intro h1 h2)
  clear h1 h2
  go_enter Try.func38, Try.ntmps38
  go_wp2_with fail
  have hb1 := heap_alloc_new w (.cells #[.int .i64 k, .int .i64 n, .int .u64 u, .string s, .slice a4 keys.length c4, .slice a5 l.length c5] 27)
  have hg1 := (Grew.refl w).alloc (.cells #[.int .i64 k, .int .i64 n, .int .u64 u, .string s, .slice a4 keys.length c4, .slice a5 l.length c5] 27)
  generalize (w.alloc (.cells #[.int .i64 k, .int .i64 n, .int .u64 u, .string s, .slice a4 keys.length c4, .slice a5 l.length c5] 27)) = w1 at *
  obtain ⟨N, hN⟩ : ∃ N, w.heap.size = N := ⟨_, rfl⟩
  rw [hN] at hb1 ⊢
  clear hN
  have HB1 := Lib.hid hb1
  have HG := Lib.hid hg1
  have c0 := row_cellT hb1 0 _ rfl
  clear hb1 hg1 hlt hgt
  refine wp_region_last Grew [[], [0], [1], [], [3], [4], [], [2], [5, 6]] [[(16, 2), (17, 3), (18, 4), (19, 5), (4, 6), (3, 7)], [(14, 0), (17, 3), (18, 4), (19, 5), (4, 6), (3, 7)], [(14, 0), (15, 1), (17, 3), (18, 4), (19, 5), (4, 6)], [(14, 0), (15, 1), (16, 2), (19, 5), (4, 6), (3, 7)], [(14, 0), (15, 1), (16, 2), (17, 3), (4, 6), (3, 7)], [(14, 0), (15, 1), (16, 2), (17, 3), (18, 4), (4, 6), (3, 7)], [(14, 0), (15, 1), (16, 2), (17, 3), (18, 4), (19, 5), (3, 7)], [(14, 0), (15, 1), (16, 2), (17, 3), (18, 4), (19, 5), (4, 6)], [(14, 0), (15, 1), (16, 2), (17, 3), (18, 4), (19, 5), (4, 6), (3, 7)]]
    [Is (.pointer (some ⟨N, 0, none⟩)), Is (.int .i64 k), Is (.int .i64 (usesF k)), Is (.pointer (some ⟨N, 0, none⟩)), Is (.int .i64 k), Is (.int .i64 (partF k)), fun v w => ∃ g, v = .pointer (some ⟨g, 0, none⟩) ∧ w1.heap.size ≤ g ∧ w.heap[g]? = some (.cells #[.int .i64 0] 3 (0, 0)), Is (.int .i64 (usesF k))]
    (by kernel_rfl) Grew.trans Grew.refl (Grew.refl _).drew (by kernel_rfl) ⟨is_st, is_st, is_st, is_st, is_st, is_st, fun _ _ _ hg h => h.elim fun q h => ⟨q, h.1, h.2.1, hg.heap h.2.2⟩, is_st, trivial⟩ rfl ⟨?_, ?_, ?_, ?_, ?_, ?_, ?_, ?_, trivial⟩ ?_ rfl
  · intro y w2' hG hD K hK
    simp only [fillL, Act.put, List.setIfInBounds_toArray, List.set_cons_zero, List.set_cons_succ, List.getD_cons_zero, List.getD_cons_succ, Is] at hK ⊢
    refine ite_yes (by rfl) ?_
    go_simp
    exact hK _ _ _ rfl (Grew.refl _) rfl
  · intro y w2' hG hD K hK
    simp only [depsH, List.getD_cons_zero, List.getD_cons_succ, Is, and_true] at hD
    have h0 := hD
    clear hD
    have dc0 := hG.cell c0
    simp only [fillL, Act.put, List.setIfInBounds_toArray, List.set_cons_zero, List.set_cons_succ, List.getD_cons_zero, List.getD_cons_succ, Is] at hK ⊢
    rw [h0] at hK ⊢
    clear h0
    refine ite_yes (by rfl) ?_
    go_simp
    exact hK _ _ _ rfl (Grew.refl _) rfl
  · intro y w2' hG hD K hK
    simp only [depsH, List.getD_cons_zero, List.getD_cons_succ, Is, and_true] at hD
    have h1 := hD
    clear hD
    simp only [fillL, Act.put, List.setIfInBounds_toArray, List.set_cons_zero, List.set_cons_succ, List.getD_cons_zero, List.getD_cons_succ, Is] at hK ⊢
    rw [h1] at hK ⊢
    clear h1
    refine ite_yes (by rfl) ?_
    go_simp
    refine (uses_any k _ H12.out.1 H12.out.2).mono ?_
    rintro r w3 ⟨rfl, rfl⟩
    exact hK _ _ _ rfl (Grew.refl _) rfl
  · intro y w2' hG hD K hK
    simp only [fillL, Act.put, List.setIfInBounds_toArray, List.set_cons_zero, List.set_cons_succ, List.getD_cons_zero, List.getD_cons_succ, Is] at hK ⊢
    refine ite_yes (by rfl) ?_
    go_simp
    exact hK _ _ _ rfl (Grew.refl _) rfl
  · intro y w2' hG hD K hK
    simp only [depsH, List.getD_cons_zero, List.getD_cons_succ, Is, and_true] at hD
    have h3 := hD
    clear hD
    have dc0 := hG.cell c0
    simp only [fillL, Act.put, List.setIfInBounds_toArray, List.set_cons_zero, List.set_cons_succ, List.getD_cons_zero, List.getD_cons_succ, Is] at hK ⊢
    rw [h3] at hK ⊢
    clear h3
    refine ite_yes (by rfl) ?_
    go_simp
    exact hK _ _ _ rfl (Grew.refl _) rfl
  · intro y w2' hG hD K hK
    simp only [depsH, List.getD_cons_zero, List.getD_cons_succ, Is, and_true] at hD
    have h4 := hD
    clear hD
    simp only [fillL, Act.put, List.setIfInBounds_toArray, List.set_cons_zero, List.set_cons_succ, List.getD_cons_zero, List.getD_cons_succ, Is] at hK ⊢
    rw [h4] at hK ⊢
    clear h4
    refine ite_yes (by rfl) ?_
    go_simp
    refine (part_any k _ H12.out.1 H12.out.2).mono ?_
    rintro r w3 ⟨rfl, rfl⟩
    exact hK _ _ _ rfl (Grew.refl _) rfl
  · intro y w2' hG hD K hK
    simp only [fillL, Act.put, List.setIfInBounds_toArray, List.set_cons_zero, List.set_cons_succ, List.getD_cons_zero, List.getD_cons_succ, Is] at hK ⊢
    refine ite_yes (by rfl) ?_
    go_simp
    exact hK _ _ _ rfl ((Grew.refl _).alloc _) ⟨_, rfl, hG.size, heap_alloc_new _ _⟩
  · intro y w2' hG hD K hK
    simp only [depsH, List.getD_cons_zero, List.getD_cons_succ, Is, and_true] at hD
    have h2 := hD
    clear hD
    simp only [fillL, Act.put, List.setIfInBounds_toArray, List.set_cons_zero, List.set_cons_succ, List.getD_cons_zero, List.getD_cons_succ, Is] at hK ⊢
    rw [h2] at hK ⊢
    clear h2
    refine ite_yes (by rfl) ?_
    go_simp
    exact hK _ _ _ rfl (Grew.refl _) rfl
  · intro y w2' hG hF K hK
    simp only [factsH, Is, and_true, Nat.reduceAdd] at hF
    have h0 := hF.1
    have h1 := hF.2.1
    have h2 := hF.2.2.1
    have h3 := hF.2.2.2.1
    have h4 := hF.2.2.2.2.1
    have h5 := hF.2.2.2.2.2.1
    have h6 := hF.2.2.2.2.2.2.1
    have h7 := hF.2.2.2.2.2.2.2
    clear hF
    simp only [lastOf]
    simp only [fillL, Act.put, List.setIfInBounds_toArray, List.set_cons_zero, List.set_cons_succ, List.getD_cons_zero, List.getD_cons_succ, Is] at hK ⊢
    rw [h0, h1, h2, h3, h4, h5, h7]
    clear h0 h1 h2 h3 h4 h5 h7
    refine ite_yes (by rfl) ?_
    refine Exists.elim h6 fun g h => ?_
    have hs6 := h.1
    have hgB := h.2.1
    have hrow := h.2.2
    clear h h6
    rw [hs6]
    clear hs6
    have f0 := row_frozen hrow 0
    have d0 := row_cellT hrow 0 _ rfl
    have hrow2 : (w2'.setCell ⟨g, 0, none⟩ (.int .i64 (partF k))).heap[g]? = some (.cells #[.int .i64 (partF k)] 3 (0, 0)) := by have := heap_setCell_same w2' g 0 _ _ (.int .i64 (partF k)) hrow; simpa using this
    have hmv : Moved (fun q => q = g) w2' (w2'.setCell ⟨g, 0, none⟩ (.int .i64 (partF k))) := Moved.setCell (S := fun q => q = g) (p := ⟨g, 0, none⟩) (Moved.refl _ w2') (fun _ => rfl) _
    have hgr : Grew w1 _ := Moved.fresh hG hmv (fun q e => by omega)
    clear hG hrow hmv
    go_simp
    refine hK _ _ ?_
    clear f0 d0 hK
    generalize (w2'.setCell ⟨g, 0, none⟩ (.int .i64 (partF k))) = w3 at *
    have hb3 := hgr.heap HB1.out
    have HGC := Lib.hid (HG.out.trans hgr)
    replace c0 := row_cellT hb3 0 _ rfl
    have c1 := row_cellT hb3 1 _ rfl
    have c2 := row_cellT hb3 2 _ rfl
    have c3 := row_cellT hb3 3 _ rfl
    have c4' := row_cellT hb3 4 _ rfl
    have c5' := row_cellT hb3 5 _ rfl
    have HCALL : Hid (Calls Try.prog 65 #[.slice a5 l.length c5, .func (.func 64) #[] #[.pointer (some ⟨g, 0, none⟩)]] w3 fun r w' => r = .returned (.bool (l.any (otherB (partF k)))) ∧ Grew w3 w') := contains_any (partF k) g l _ vs w3 (HROWS.out.grew HGC.out) (HK.out.grew HGC.out) (row_cellT hrow2 0 _ rfl)
    clear hb3 hrow2 hgr hgB HB1 HG
    obtain ⟨h1, h2⟩ := H12.out
    clear H12
    rcases kinds k h1 h2 with rfl | rfl | rfl | rfl | rfl | rfl | rfl | rfl | rfl | rfl | rfl | rfl | rfl | rfl | rfl | rfl | rfl
    · clear h1 h2
      rw [show usesF 1 = 0 from rfl]
      have hm1 : bits BinOp.and IntKind.i64 0 1 = 0 := by kernel_rfl
      have hm2 : bits BinOp.and IntKind.i64 0 2 = 0 := by kernel_rfl
      have hm4 : bits BinOp.and IntKind.i64 0 4 = 0 := by kernel_rfl
      have hm8 : bits BinOp.and IntKind.i64 0 8 = 0 := by kernel_rfl
      go_wp2_with (go_at_call 65; refine HCALL.out.mono ?_; rintro r w4 ⟨rfl, hg⟩; have HGD := Lib.hid (HGC.out.trans hg); clear hg)
      all_goals
        go_ret
        first
        | (refine ⟨?_, HGD.out⟩
           clear HCALL HGC HK HROWS HGD
           refine ret_bool ?_
           (simp_all [suchB, usesF, List.length_pos_iff]; try omega))
        | (refine ⟨?_, HGC.out⟩
           clear HCALL HGC HK HROWS
           refine ret_bool ?_
           (simp_all [suchB, usesF, List.length_pos_iff]; try omega))
    · clear h1 h2
      rw [show usesF 2 = 1 from rfl]
      have hm1 : bits BinOp.and IntKind.i64 1 1 = 1 := by kernel_rfl
      have hm2 : bits BinOp.and IntKind.i64 1 2 = 0 := by kernel_rfl
      have hm4 : bits BinOp.and IntKind.i64 1 4 = 0 := by kernel_rfl
      have hm8 : bits BinOp.and IntKind.i64 1 8 = 0 := by kernel_rfl
      go_wp2_with (go_at_call 65; refine HCALL.out.mono ?_; rintro r w4 ⟨rfl, hg⟩; have HGD := Lib.hid (HGC.out.trans hg); clear hg)
      all_goals
        go_ret
        first
        | (refine ⟨?_, HGD.out⟩
           clear HCALL HGC HK HROWS HGD
           refine ret_bool ?_
           (simp_all [suchB, usesF, List.length_pos_iff]; try omega))
        | (refine ⟨?_, HGC.out⟩
           clear HCALL HGC HK HROWS
           refine ret_bool ?_
           (simp_all [suchB, usesF, List.length_pos_iff]; try omega))
    · clear h1 h2
      rw [show usesF 3 = 1 from rfl]
      have hm1 : bits BinOp.and IntKind.i64 1 1 = 1 := by kernel_rfl
      have hm2 : bits BinOp.and IntKind.i64 1 2 = 0 := by kernel_rfl
      have hm4 : bits BinOp.and IntKind.i64 1 4 = 0 := by kernel_rfl
      have hm8 : bits BinOp.and IntKind.i64 1 8 = 0 := by kernel_rfl
      go_wp2_with (go_at_call 65; refine HCALL.out.mono ?_; rintro r w4 ⟨rfl, hg⟩; have HGD := Lib.hid (HGC.out.trans hg); clear hg)
      all_goals
        go_ret
        first
        | (refine ⟨?_, HGD.out⟩
           clear HCALL HGC HK HROWS HGD
           refine ret_bool ?_
           (simp_all [suchB, usesF, List.length_pos_iff]; try omega))
        | (refine ⟨?_, HGC.out⟩
           clear HCALL HGC HK HROWS
           refine ret_bool ?_
           (simp_all [suchB, usesF, List.length_pos_iff]; try omega))
    · clear h1 h2
      rw [show usesF 4 = 2 from rfl]
      have hm1 : bits BinOp.and IntKind.i64 2 1 = 0 := by kernel_rfl
      have hm2 : bits BinOp.and IntKind.i64 2 2 = 2 := by kernel_rfl
      have hm4 : bits BinOp.and IntKind.i64 2 4 = 0 := by kernel_rfl
      have hm8 : bits BinOp.and IntKind.i64 2 8 = 0 := by kernel_rfl
      go_wp2_with (go_at_call 65; refine HCALL.out.mono ?_; rintro r w4 ⟨rfl, hg⟩; have HGD := Lib.hid (HGC.out.trans hg); clear hg)
      all_goals
        go_ret
        first
        | (refine ⟨?_, HGD.out⟩
           clear HCALL HGC HK HROWS HGD
           refine ret_bool ?_
           (simp_all [suchB, usesF, List.length_pos_iff]; try omega))
        | (refine ⟨?_, HGC.out⟩
           clear HCALL HGC HK HROWS
           refine ret_bool ?_
           (simp_all [suchB, usesF, List.length_pos_iff]; try omega))
    · clear h1 h2
      rw [show usesF 5 = 4 from rfl]
      have hm1 : bits BinOp.and IntKind.i64 4 1 = 0 := by kernel_rfl
      have hm2 : bits BinOp.and IntKind.i64 4 2 = 0 := by kernel_rfl
      have hm4 : bits BinOp.and IntKind.i64 4 4 = 4 := by kernel_rfl
      have hm8 : bits BinOp.and IntKind.i64 4 8 = 0 := by kernel_rfl
      go_wp2_with (go_at_call 65; refine HCALL.out.mono ?_; rintro r w4 ⟨rfl, hg⟩; have HGD := Lib.hid (HGC.out.trans hg); clear hg)
      all_goals
        go_ret
        first
        | (refine ⟨?_, HGD.out⟩
           clear HCALL HGC HK HROWS HGD
           refine ret_bool ?_
           (simp_all [suchB, usesF, List.length_pos_iff]; try omega))
        | (refine ⟨?_, HGC.out⟩
           clear HCALL HGC HK HROWS
           refine ret_bool ?_
           (simp_all [suchB, usesF, List.length_pos_iff]; try omega))
    · clear h1 h2
      rw [show usesF 6 = 4 from rfl]
      have hm1 : bits BinOp.and IntKind.i64 4 1 = 0 := by kernel_rfl
      have hm2 : bits BinOp.and IntKind.i64 4 2 = 0 := by kernel_rfl
      have hm4 : bits BinOp.and IntKind.i64 4 4 = 4 := by kernel_rfl
      have hm8 : bits BinOp.and IntKind.i64 4 8 = 0 := by kernel_rfl
      go_wp2_with (go_at_call 65; refine HCALL.out.mono ?_; rintro r w4 ⟨rfl, hg⟩; have HGD := Lib.hid (HGC.out.trans hg); clear hg)
      all_goals
        go_ret
        first
        | (refine ⟨?_, HGD.out⟩
           clear HCALL HGC HK HROWS HGD
           refine ret_bool ?_
           (simp_all [suchB, usesF, List.length_pos_iff]; try omega))
        | (refine ⟨?_, HGC.out⟩
           clear HCALL HGC HK HROWS
           refine ret_bool ?_
           (simp_all [suchB, usesF, List.length_pos_iff]; try omega))
    · clear h1 h2
      rw [show usesF 7 = 4 from rfl]
      have hm1 : bits BinOp.and IntKind.i64 4 1 = 0 := by kernel_rfl
      have hm2 : bits BinOp.and IntKind.i64 4 2 = 0 := by kernel_rfl
      have hm4 : bits BinOp.and IntKind.i64 4 4 = 4 := by kernel_rfl
      have hm8 : bits BinOp.and IntKind.i64 4 8 = 0 := by kernel_rfl
      go_wp2_with (go_at_call 65; refine HCALL.out.mono ?_; rintro r w4 ⟨rfl, hg⟩; have HGD := Lib.hid (HGC.out.trans hg); clear hg)
      all_goals
        go_ret
        first
        | (refine ⟨?_, HGD.out⟩
           clear HCALL HGC HK HROWS HGD
           refine ret_bool ?_
           (simp_all [suchB, usesF, List.length_pos_iff]; try omega))
        | (refine ⟨?_, HGC.out⟩
           clear HCALL HGC HK HROWS
           refine ret_bool ?_
           (simp_all [suchB, usesF, List.length_pos_iff]; try omega))
    · clear h1 h2
      rw [show usesF 8 = 1 from rfl]
      have hm1 : bits BinOp.and IntKind.i64 1 1 = 1 := by kernel_rfl
      have hm2 : bits BinOp.and IntKind.i64 1 2 = 0 := by kernel_rfl
      have hm4 : bits BinOp.and IntKind.i64 1 4 = 0 := by kernel_rfl
      have hm8 : bits BinOp.and IntKind.i64 1 8 = 0 := by kernel_rfl
      go_wp2_with (go_at_call 65; refine HCALL.out.mono ?_; rintro r w4 ⟨rfl, hg⟩; have HGD := Lib.hid (HGC.out.trans hg); clear hg)
      all_goals
        go_ret
        first
        | (refine ⟨?_, HGD.out⟩
           clear HCALL HGC HK HROWS HGD
           refine ret_bool ?_
           (simp_all [suchB, usesF, List.length_pos_iff]; try omega))
        | (refine ⟨?_, HGC.out⟩
           clear HCALL HGC HK HROWS
           refine ret_bool ?_
           (simp_all [suchB, usesF, List.length_pos_iff]; try omega))
    · clear h1 h2
      rw [show usesF 9 = 2 from rfl]
      have hm1 : bits BinOp.and IntKind.i64 2 1 = 0 := by kernel_rfl
      have hm2 : bits BinOp.and IntKind.i64 2 2 = 2 := by kernel_rfl
      have hm4 : bits BinOp.and IntKind.i64 2 4 = 0 := by kernel_rfl
      have hm8 : bits BinOp.and IntKind.i64 2 8 = 0 := by kernel_rfl
      go_wp2_with (go_at_call 65; refine HCALL.out.mono ?_; rintro r w4 ⟨rfl, hg⟩; have HGD := Lib.hid (HGC.out.trans hg); clear hg)
      all_goals
        go_ret
        first
        | (refine ⟨?_, HGD.out⟩
           clear HCALL HGC HK HROWS HGD
           refine ret_bool ?_
           (simp_all [suchB, usesF, List.length_pos_iff]; try omega))
        | (refine ⟨?_, HGC.out⟩
           clear HCALL HGC HK HROWS
           refine ret_bool ?_
           (simp_all [suchB, usesF, List.length_pos_iff]; try omega))
    · clear h1 h2
      rw [show usesF 10 = 0 from rfl]
      have hm1 : bits BinOp.and IntKind.i64 0 1 = 0 := by kernel_rfl
      have hm2 : bits BinOp.and IntKind.i64 0 2 = 0 := by kernel_rfl
      have hm4 : bits BinOp.and IntKind.i64 0 4 = 0 := by kernel_rfl
      have hm8 : bits BinOp.and IntKind.i64 0 8 = 0 := by kernel_rfl
      go_wp2_with (go_at_call 65; refine HCALL.out.mono ?_; rintro r w4 ⟨rfl, hg⟩; have HGD := Lib.hid (HGC.out.trans hg); clear hg)
      all_goals
        go_ret
        first
        | (refine ⟨?_, HGD.out⟩
           clear HCALL HGC HK HROWS HGD
           refine ret_bool ?_
           (simp_all [suchB, usesF, List.length_pos_iff]; try omega))
        | (refine ⟨?_, HGC.out⟩
           clear HCALL HGC HK HROWS
           refine ret_bool ?_
           (simp_all [suchB, usesF, List.length_pos_iff]; try omega))
    · clear h1 h2
      rw [show usesF 11 = 0 from rfl]
      have hm1 : bits BinOp.and IntKind.i64 0 1 = 0 := by kernel_rfl
      have hm2 : bits BinOp.and IntKind.i64 0 2 = 0 := by kernel_rfl
      have hm4 : bits BinOp.and IntKind.i64 0 4 = 0 := by kernel_rfl
      have hm8 : bits BinOp.and IntKind.i64 0 8 = 0 := by kernel_rfl
      go_wp2_with (go_at_call 65; refine HCALL.out.mono ?_; rintro r w4 ⟨rfl, hg⟩; have HGD := Lib.hid (HGC.out.trans hg); clear hg)
      all_goals
        go_ret
        first
        | (refine ⟨?_, HGD.out⟩
           clear HCALL HGC HK HROWS HGD
           refine ret_bool ?_
           (simp_all [suchB, usesF, List.length_pos_iff]; try omega))
        | (refine ⟨?_, HGC.out⟩
           clear HCALL HGC HK HROWS
           refine ret_bool ?_
           (simp_all [suchB, usesF, List.length_pos_iff]; try omega))
    · clear h1 h2
      rw [show usesF 12 = 0 from rfl]
      have hm1 : bits BinOp.and IntKind.i64 0 1 = 0 := by kernel_rfl
      have hm2 : bits BinOp.and IntKind.i64 0 2 = 0 := by kernel_rfl
      have hm4 : bits BinOp.and IntKind.i64 0 4 = 0 := by kernel_rfl
      have hm8 : bits BinOp.and IntKind.i64 0 8 = 0 := by kernel_rfl
      go_wp2_with (go_at_call 65; refine HCALL.out.mono ?_; rintro r w4 ⟨rfl, hg⟩; have HGD := Lib.hid (HGC.out.trans hg); clear hg)
      all_goals
        go_ret
        first
        | (refine ⟨?_, HGD.out⟩
           clear HCALL HGC HK HROWS HGD
           refine ret_bool ?_
           (simp_all [suchB, usesF, List.length_pos_iff]; try omega))
        | (refine ⟨?_, HGC.out⟩
           clear HCALL HGC HK HROWS
           refine ret_bool ?_
           (simp_all [suchB, usesF, List.length_pos_iff]; try omega))
    · clear h1 h2
      rw [show usesF 13 = 0 from rfl]
      have hm1 : bits BinOp.and IntKind.i64 0 1 = 0 := by kernel_rfl
      have hm2 : bits BinOp.and IntKind.i64 0 2 = 0 := by kernel_rfl
      have hm4 : bits BinOp.and IntKind.i64 0 4 = 0 := by kernel_rfl
      have hm8 : bits BinOp.and IntKind.i64 0 8 = 0 := by kernel_rfl
      go_wp2_with (go_at_call 65; refine HCALL.out.mono ?_; rintro r w4 ⟨rfl, hg⟩; have HGD := Lib.hid (HGC.out.trans hg); clear hg)
      all_goals
        go_ret
        first
        | (refine ⟨?_, HGD.out⟩
           clear HCALL HGC HK HROWS HGD
           refine ret_bool ?_
           (simp_all [suchB, usesF, List.length_pos_iff]; try omega))
        | (refine ⟨?_, HGC.out⟩
           clear HCALL HGC HK HROWS
           refine ret_bool ?_
           (simp_all [suchB, usesF, List.length_pos_iff]; try omega))
    · clear h1 h2
      rw [show usesF 14 = 0 from rfl]
      have hm1 : bits BinOp.and IntKind.i64 0 1 = 0 := by kernel_rfl
      have hm2 : bits BinOp.and IntKind.i64 0 2 = 0 := by kernel_rfl
      have hm4 : bits BinOp.and IntKind.i64 0 4 = 0 := by kernel_rfl
      have hm8 : bits BinOp.and IntKind.i64 0 8 = 0 := by kernel_rfl
      go_wp2_with (go_at_call 65; refine HCALL.out.mono ?_; rintro r w4 ⟨rfl, hg⟩; have HGD := Lib.hid (HGC.out.trans hg); clear hg)
      all_goals
        go_ret
        first
        | (refine ⟨?_, HGD.out⟩
           clear HCALL HGC HK HROWS HGD
           refine ret_bool ?_
           (simp_all [suchB, usesF, List.length_pos_iff]; try omega))
        | (refine ⟨?_, HGC.out⟩
           clear HCALL HGC HK HROWS
           refine ret_bool ?_
           (simp_all [suchB, usesF, List.length_pos_iff]; try omega))
    · clear h1 h2
      rw [show usesF 15 = 0 from rfl]
      have hm1 : bits BinOp.and IntKind.i64 0 1 = 0 := by kernel_rfl
      have hm2 : bits BinOp.and IntKind.i64 0 2 = 0 := by kernel_rfl
      have hm4 : bits BinOp.and IntKind.i64 0 4 = 0 := by kernel_rfl
      have hm8 : bits BinOp.and IntKind.i64 0 8 = 0 := by kernel_rfl
      go_wp2_with (go_at_call 65; refine HCALL.out.mono ?_; rintro r w4 ⟨rfl, hg⟩; have HGD := Lib.hid (HGC.out.trans hg); clear hg)
      all_goals
        go_ret
        first
        | (refine ⟨?_, HGD.out⟩
           clear HCALL HGC HK HROWS HGD
           refine ret_bool ?_
           (simp_all [suchB, usesF, List.length_pos_iff]; try omega))
        | (refine ⟨?_, HGC.out⟩
           clear HCALL HGC HK HROWS
           refine ret_bool ?_
           (simp_all [suchB, usesF, List.length_pos_iff]; try omega))
    · clear h1 h2
      rw [show usesF 16 = 0 from rfl]
      have hm1 : bits BinOp.and IntKind.i64 0 1 = 0 := by kernel_rfl
      have hm2 : bits BinOp.and IntKind.i64 0 2 = 0 := by kernel_rfl
      have hm4 : bits BinOp.and IntKind.i64 0 4 = 0 := by kernel_rfl
      have hm8 : bits BinOp.and IntKind.i64 0 8 = 0 := by kernel_rfl
      go_wp2_with (go_at_call 65; refine HCALL.out.mono ?_; rintro r w4 ⟨rfl, hg⟩; have HGD := Lib.hid (HGC.out.trans hg); clear hg)
      all_goals
        go_ret
        first
        | (refine ⟨?_, HGD.out⟩
           clear HCALL HGC HK HROWS HGD
           refine ret_bool ?_
           (simp_all [suchB, usesF, List.length_pos_iff]; try omega))
        | (refine ⟨?_, HGC.out⟩
           clear HCALL HGC HK HROWS
           refine ret_bool ?_
           (simp_all [suchB, usesF, List.length_pos_iff]; try omega))
    · clear h1 h2
      rw [show usesF 17 = 8 from rfl]
      have hm1 : bits BinOp.and IntKind.i64 8 1 = 0 := by kernel_rfl
      have hm2 : bits BinOp.and IntKind.i64 8 2 = 0 := by kernel_rfl
      have hm4 : bits BinOp.and IntKind.i64 8 4 = 0 := by kernel_rfl
      have hm8 : bits BinOp.and IntKind.i64 8 8 = 8 := by kernel_rfl
      go_wp2_with (go_at_call 65; refine HCALL.out.mono ?_; rintro r w4 ⟨rfl, hg⟩; have HGD := Lib.hid (HGC.out.trans hg); clear hg)
      all_goals
        go_ret
        first
        | (refine ⟨?_, HGD.out⟩
           clear HCALL HGC HK HROWS HGD
           refine ret_bool ?_
           (simp_all [suchB, usesF, List.length_pos_iff]; try omega))
        | (refine ⟨?_, HGC.out⟩
           clear HCALL HGC HK HROWS
           refine ret_bool ?_
           (simp_all [suchB, usesF, List.length_pos_iff]; try omega))
end Go.Proofs.Ytlhliolknaopjaa

/-
  Trees: the walk over a tree in preorder, as an iterator (walked, walk). Conditions: the tree lies in a world whose cells are kept; its size is bounded.
-/
namespace Go.Proofs.Ytlhliolknaopjaa
open Go Go.ChangeShapes Go.WideShapes Go.ChangeAt Go.RowKit Go.Joins Go.Deep Go.Shelf
set_option linter.unusedVariables false
set_option linter.unusedSimpArgs false
attribute [local go_sem] Oper.semAt_some

/-- The cells of w hold in w' what they held. -/
def CellsK (w w' : World) : Prop := ∀ (k : Nat) (o : Obj), w.heap[k]? = some o → o.isCells = true → w'.heap[k]? = some o
theorem CellsK.cell {w w' : World} (h : CellsK w w') {a : Addr} {v : Value} (hc : w.cell? a = some v) : w'.cell? a = some v := by
  have : ∃ o, w.heap[a.block]? = some o ∧ o.isCells = true := by
    unfold World.cell? at hc
    cases ho : w.heap[a.block]? with
    | none => simp [ho] at hc
    | some o => exact ⟨o, rfl, by cases o <;> simp_all [Obj.isCells]⟩
  obtain ⟨o, ho, hi⟩ := this
  rw [World.cell?_of_block (w := w) ((h _ o ho hi).trans ho.symm)]
  exact hc
theorem CellsK.of_grew {w w' : World} (h : Grew w w') : CellsK w w' := fun k o ho _ => (h.block k (Array.getElem?_eq_some_iff.1 ho).1).trans ho
section
variable {w w' : World} {v : Value} {vs : List Value}
theorem StrsAt.cells {ks : List ByteArray} (h : StrsAt w v ks) (hg : CellsK w w') : StrsAt w' v ks := by
  obtain ⟨a, c, h1, h2, h3, h4, h5⟩ := h
  refine ⟨a, c, h1, h2, h3, h4, fun i s hs => ?_⟩
  obtain ⟨hz, b, off, e, hc⟩ := h5 i s hs
  exact ⟨hz, b, off, e, hg.cell hc⟩
theorem Cells6.cells {b off : Nat} (h : Cells6 w b off v) (hg : CellsK w w') : Cells6 w' b off v := by
  obtain ⟨c0, c1, c2, c3, c4, c5, e, h0, h1, h2, h3, h4, h5⟩ := h
  exact ⟨c0, c1, c2, c3, c4, c5, e, hg.cell h0, hg.cell h1, hg.cell h2, hg.cell h3, hg.cell h4, hg.cell h5⟩
theorem RowsAt.cells (h : RowsAt w v vs) (hg : CellsK w w') : RowsAt w' v vs := by
  obtain ⟨a, c, h1, h2, h3, h4, h5⟩ := h
  refine ⟨a, c, h1, h2, h3, h4, fun i x hx => ?_⟩
  obtain ⟨b, off, e, hc⟩ := h5 i x hx
  exact ⟨b, off, e, hc.cells hg⟩
mutual
theorem NodeAt.cells (hg : CellsK w w') : ∀ {t : Tr} {v : Value}, NodeAt w t v → NodeAt w' t v
  | .mk k n u s keys l, v, ⟨hb, kv, lv, vs, e, h1, h2, h3⟩ => ⟨hb, kv, lv, vs, e, h1.cells hg, h2.cells hg, KidsAt.cells hg h3⟩
theorem KidsAt.cells (hg : CellsK w w') : ∀ {l : List Tr} {vs : List Value}, KidsAt w l vs → KidsAt w' l vs
  | [], _, h => h
  | t :: r, _, ⟨v, vr, e, h1, h2⟩ => ⟨v, vr, e, NodeAt.cells hg h1, KidsAt.cells hg h2⟩
end
end
/-- What a round keeps: the cells that lay below lo or from hi on. -/
structure KpC (lo hi : Nat) (w w' : World) : Prop where
  size : w.heap.size ≤ w'.heap.size
  same : ∀ (k : Nat) (o : Obj), w.heap[k]? = some o → o.isCells = true → k < lo ∨ hi ≤ k → w'.heap[k]? = some o
theorem KpC.trans {lo hi : Nat} {a b c : World} (h : KpC lo hi a b) (k : KpC lo hi b c) : KpC lo hi a c := ⟨Nat.le_trans h.size k.size, fun i o ho hc hr => k.same i o (h.same i o ho hc hr) hc hr⟩
theorem KpC.of_grew {lo hi : Nat} {a b : World} (h : Grew a b) : KpC lo hi a b := ⟨h.size, fun k o ho hc _ => CellsK.of_grew h k o ho hc⟩
theorem KpC.turn {lo hi : Nat} (W : World) (l : Nat) (o o' : Obj) (h : W.heap[l]? = some o) (ho : o.isCells = false) : KpC lo hi W (W.putObj l o') :=
  ⟨by simp, fun k q hk hc _ => by
    by_cases e : k = l
    · subst e; rw [h] at hk; cases hk; rw [ho] at hc; cases hc
    · exact (World.putObj_heap_other e).trans hk⟩
theorem CellsK.keep {lo hi : Nat} {w0 a b : World} (h : CellsK w0 a) (hlo : w0.heap.size ≤ lo) (k : KpC lo hi a b) : CellsK w0 b := fun i o ho hc => k.same i o (h i o ho hc) hc (.inl (Nat.lt_of_lt_of_le (Array.getElem?_eq_some_iff.1 ho).1 hlo))
theorem AbidesFrom.grew {β : Type} {B : Nat} {J : β → World → Prop} (h : AbidesFrom B J) {s : β} {A C : World} (hs : J s A) (hg : Grew A C) : J s C :=
  h s A C none hs ⟨hg.os, hg.tape, hg.output, hg.size, fun k hk _ => hg.block k hk⟩ (fun r e => by cases e)

mutual
/-- A tree's nodes in preorder, with their levels. -/
def preT (b : Nat) : Tr → List (Nat × Tr) | .mk k n u s keys l => (b, .mk k n u s keys l) :: preL (b + 1) l
def preL (b : Nat) : List Tr → List (Nat × Tr) | [] => [] | t :: r => preT b t ++ preL b r
end
theorem preL_snoc (b : Nat) (l : List Tr) (x : Tr) : preL b (l ++ [x]) = preL b l ++ preT b x := by
  induction l with
  | nil => simp [preL]
  | cons t r ih => simp [preL, ih]
theorem preL_append (b : Nat) (l r : List Tr) : preL b (l ++ r) = preL b l ++ preL b r := by
  induction l with
  | nil => simp [preL]
  | cons t q ih => simp [preL, ih]
mutual
theorem preT_length (b : Nat) : ∀ t : Tr, (preT b t).length = t.size
  | .mk k n u s keys l => by simp only [preT, Tr.size, List.length_cons, preL_length (b + 1) l]
theorem preL_length (b : Nat) : ∀ l : List Tr, (preL b l).length = sizeL l
  | [] => rfl
  | t :: r => by simp only [preL, sizeL, List.length_append, preT_length b t, preL_length b r]
end
theorem sizeL_append (l r : List Tr) : sizeL (l ++ r) = sizeL l + sizeL r := by
  induction l with
  | nil => simp [sizeL]
  | cons t q ih => simp only [List.cons_append, sizeL, ih]; omega
/-- What a round is handed: a level, a node's value, its tree, in a world. -/
def Visit (P : Tr → Prop) (w0 : World) : Type := { p : Nat × Value × Tr // NodeAt w0 p.2.2 p.2.1 ∧ p.1 ≤ 1099511627776 ∧ P p.2.2 }
def Visit.key {P : Tr → Prop} {w0 : World} (x : Visit P w0) : Nat × Tr := (x.1.1, x.1.2.2)
def Visit.encs {P : Tr → Prop} {w0 : World} (x : Visit P w0) : Array Value := #[.int .i64 x.1.1, x.1.2.1]
theorem YieldAt.anyM {m m' : Nat} {P : Program} {l : Nat} {args : Array Value} {W : World} {R : Ending → World → Prop} (h : YieldAt Fence.wide m P l args W R) : YieldAt Fence.wide m' P l args W R := by
  obtain ⟨fn, tmps, assign, body, hy, hR⟩ := h
  exact ⟨fn, tmps, assign, body, hy, hR.1, fun c cs _ => hR.2 c cs (room_wide _)⟩
set_option maxRecDepth 100000 in
set_option maxHeartbeats 2000000 in
theorem walkIn_any (P : Tr → Prop) (hP : ∀ t, P t → ∀ x ∈ t.kids, P x) (w0 : World) (lp lo hi N : Nat) (J Jx : List (Visit P w0) → World → Prop) (hlo : w0.heap.size ≤ lo)
    (hJ : ∀ s A B, J s A → Grew A B → J s B)
    (hY : ∀ m pre (x : Visit P w0) W, J pre W → pre.length < N → YieldAt Fence.wide m Try.prog lp x.encs W fun e W' =>
      (e = .returned (.bool true) ∧ J (pre ++ [x]) W' ∧ KpC lo hi W W') ∨ (e = .returned (.bool false) ∧ Jx (pre ++ [x]) W')) :
    ∀ (m : Nat) (t : Tr), t.size ≤ m → P t → ∀ (n : Nat) (v : Value) (b : Nat) (pre : List (Visit P w0)) (W : World), NodeAt w0 t v → CellsK w0 W → hi ≤ W.heap.size → J pre W → pre.length + t.size ≤ N → b + t.size ≤ 1099511627776 →
      CallsIn Fence.wide n Try.prog 61 #[v, .int .i64 b, .func (.yield lp) #[] #[]] W fun e W' =>
        (e = .returned (.bool true) ∧ (∃ ys : List (Visit P w0), ys.map Visit.key = preT b t ∧ J (pre ++ ys) W') ∧ KpC lo hi W W') ∨
        (e = .returned (.bool false) ∧ ∃ ys : List (Visit P w0), ys.map Visit.key <+: preT b t ∧ Jx (pre ++ ys) W') := by
  intro m
  induction m with
  | zero => intro t ht; have := t.size_pos; omega
  | succ m ih =>
  intro t ht hPt nn v b pre W hn hC hhi h0 hN hb
  obtain ⟨x, hx1, hx2⟩ : ∃ x : Visit P w0, x.1 = (b, v, t) ∧ x.encs = #[.int .i64 b, v] := ⟨⟨(b, v, t), hn, by have := t.size_pos; show b ≤ _; omega, hPt⟩, rfl, rfl⟩
  have HPK := Lib.hid (hP t hPt)
  clear hP
  have HX : Hid (x.key = (b, t)) := by show _ = _; simp [Visit.key, hx1]
  clear hx1
  obtain ⟨k, n, u, s, keys, l⟩ := t
  simp only [NodeAt] at hn
  obtain ⟨_, kv, lv, vs, rfl, hks, hrows, hkids⟩ := hn
  have hkl : vs.length = l.length := hkids.length
  obtain ⟨a4, c4, rfl, _, _, _, _⟩ := hks
  have HK := Lib.hid hkids
  have HROWS := Lib.hid hrows
  obtain ⟨a5, c5, rfl, hx3, hc5, hx4, hx5⟩ := hrows
  rw [hkl] at HROWS hx3 hx2 ⊢
  obtain ⟨fn, tmps, assign, body, hy, hR⟩ := hY (nn - 1) pre x (W.alloc (.cells #[.int .i64 k, .int .i64 n, .int .u64 u, .string s, .slice a4 keys.length c4, .slice a5 l.length c5] 27)) (hJ _ _ _ h0 ((Grew.refl W).alloc _)) (by simp only [Tr.size] at hN; omega)
  rw [hx2] at hy
  have hlen : l.length ≤ 9223372036854775807 := by unfold lenok at hc5; omega
  have HC := Lib.hid hC
  have HHI := Lib.hid hhi
  have HT := Lib.hid ht
  have HN := Lib.hid hN
  have HB := Lib.hid hb
  have H0 := Lib.hid h0
  have HIH := Lib.hid ih
  have HHJ := Lib.hid hJ
  have HY := Lib.hid hY
  have HLO := Lib.hid hlo
  clear hx3 hx4 hx5 hc5 hkids hC hhi ht hN hb h0 ih hJ hY hlo hkl
  refine callsIn_of_wp Try.func61 rfl trivial ?_ rfl
  simp only [Try.ntmps61, List.size_toArray, List.length_cons, List.length_nil, Nat.reduceAdd, Nat.reduceSub, Array.replicate_succ, Array.replicate_zero, List.push_toArray, List.append_toArray, List.nil_append, List.cons_append]
  have hbx0 := heap_alloc_new W (.cells #[.int .i64 k, .int .i64 n, .int .u64 u, .string s, .slice a4 keys.length c4, .slice a5 l.length c5] 27)
  have hs0 : (W.alloc (.cells #[.int .i64 k, .int .i64 n, .int .u64 u, .string s, .slice a4 keys.length c4, .slice a5 l.length c5] 27)).heap.size = W.heap.size + 1 := World.size_alloc _ _
  have HG0 := Lib.hid ((Grew.refl W).alloc (.cells #[.int .i64 k, .int .i64 n, .int .u64 u, .string s, .slice a4 keys.length c4, .slice a5 l.length c5] 27))
  have hR2 := hR.mono (R' := fun e W2 => (e = .returned (.bool true) ∧ Hid (J (pre ++ [x]) W2 ∧ KpC lo hi W W2) ∧ W2.cell? ⟨W.heap.size, 5, none⟩ = some (.slice a5 l.length c5)) ∨ (e = .returned (.bool false) ∧ Hid (Jx (pre ++ [x]) W2))) (fun e W2 h => h.elim (fun h => .inl ⟨h.1, ⟨h.2.1, (KpC.of_grew HG0.out).trans h.2.2⟩, row_cellT (h.2.2.same _ _ hbx0 rfl (.inr HHI.out)) 5 _ rfl⟩) (fun h => .inr h))
  clear hbx0 hs0 hR
  have hdd : ∀ q : Nat, (Fence.wide.depth.isSome = true → 1 ≤ q) := fun q h => by cases h
  gi_wp2_with (refine ⟨hdd _, ?_⟩; refine hR2.mono ?_; clear hR2; rintro e W2 (⟨rfl, HW2, d5⟩ | ⟨rfl, hx2⟩))
  · -- the node has been visited
    have HCW := Lib.hid (HC.out.keep HLO.out HW2.out.2)
    have HH2 : Hid (hi ≤ W2.heap.size) := Nat.le_trans HHI.out HW2.out.2.size
    clear d5 hy hx2
    gi_loopw [17] (fun i wr => ∃ j : Nat, j ≤ l.length ∧ i = .int .i64 j ∧ Hid (KpC lo hi W wr ∧ ∃ ys : List (Visit P w0), ys.map Visit.key = preL (b + 1) (l.take j) ∧ J (pre ++ x :: ys) wr)) (fun i _ => l.length - (intOf i).toNat)
    case atStart =>
      refine ⟨0, Nat.zero_le _, rfl, ?_⟩
      show _ ∧ _
      exact ⟨HW2.out.2, [], by simp [preL], HW2.out.1⟩
    case round =>
      obtain ⟨j, hj, rfl, HW⟩ := hrel
      by_cases hlt : j < l.length
      · obtain ⟨y, hy⟩ : ∃ y, l[j]? = some y := ⟨_, List.getElem?_eq_getElem hlt⟩
        obtain ⟨yv, hyv, hny⟩ := HK.out.get hy
        have hym : y ∈ l := List.mem_of_getElem? hy
        have htk : l.take (j + 1) = l.take j ++ [y] := by rw [List.take_add_one, hy]; rfl
        have HTK : Hid (preL (b + 1) (l.take (j + 1)) = preL (b + 1) (l.take j) ++ preT (b + 1) y) := by show _ = _; rw [htk, preL_snoc]
        have hszy : sizeL (l.take j) + y.size ≤ sizeL l := by
          have h1 : sizeL (l.take (j + 1)) + sizeL (l.drop (j + 1)) = sizeL l := by rw [← sizeL_append, List.take_append_drop]
          rw [htk, sizeL_append] at h1
          simp only [sizeL] at h1
          omega
        have hCwr : CellsK w0 wr := HC.out.keep HLO.out HW.out.1
        obtain ⟨bb, off, rfl, hc6⟩ : ∃ bb off, a5 = some ⟨bb, off, none⟩ ∧ Cells6 wr bb (off + j * 6) yv := by
          obtain ⟨a, c, e, _, _, _, h⟩ := HROWS.out
          injection e with e1 e2 e3
          subst e1
          obtain ⟨bb, off, e, h6⟩ := h j yv hyv
          exact ⟨bb, off, e, h6.cells hCwr⟩
        obtain ⟨xk, xn, xu, xs, xa4, xn4, xc4, xa5, xn5, xc5, rfl⟩ := hny.node6
        obtain ⟨e0, e1, e2, e3, e4, e5⟩ := hc6.get
        have hcall : Hid (∀ q : Nat, CallsIn Fence.wide q Try.prog 61 #[.agg #[.int .i64 xk, .int .i64 xn, .int .u64 xu, .string xs, .slice xa4 xn4 xc4, .slice xa5 xn5 xc5], .int .i64 ((b : Int) + 1), .func (.yield lp) #[] #[]] (wr.alloc (.cells #[.int .i64 xk, .int .i64 xn, .int .u64 xu, .string xs, .slice xa4 xn4 xc4, .slice xa5 xn5 xc5] 27)) fun e W' =>
            (e = .returned (.bool true) ∧ Hid (KpC lo hi W W' ∧ ∃ ys : List (Visit P w0), ys.map Visit.key = preL (b + 1) (l.take (j + 1)) ∧ J (pre ++ x :: ys) W')) ∨
            (e = .returned (.bool false) ∧ Hid (∃ ys : List (Visit P w0), ys.map Visit.key <+: preT b (.mk k n u s keys l) ∧ Jx (pre ++ ys) W'))) := by
          intro q
          obtain ⟨hkp, ys, hys, hjs⟩ := HW.out
          have hN' := HN.out
          have hB' := HB.out
          have hT' := HT.out
          simp only [Tr.size] at hN' hB' hT'
          have hyl : ys.length = sizeL (l.take j) := by rw [← preL_length (b + 1), ← hys, List.length_map]
          have hga := (Grew.refl wr).alloc (.cells #[.int .i64 xk, .int .i64 xn, .int .u64 xu, .string xs, .slice xa4 xn4 xc4, .slice xa5 xn5 xc5] 27)
          have hpos := y.size_pos
          have hsj := size_mem hym
          refine (HIH.out y (by omega) (HPK.out y hym) q _ (b + 1) (pre ++ x :: ys) _ hny (hCwr.keep HLO.out (KpC.of_grew hga : KpC lo hi _ _)) (Nat.le_trans HHI.out (Nat.le_trans hkp.size hga.size)) (HHJ.out _ _ _ hjs hga) (by simp only [List.length_append, List.length_cons]; omega) (by omega)).mono ?_
          rintro e W' (⟨rfl, ⟨zs, hzs, hjz⟩, hk'⟩ | ⟨rfl, zs, hzs, hjz⟩)
          · refine .inl ⟨rfl, (hkp.trans (KpC.of_grew hga)).trans hk', ys ++ zs, ?_, ?_⟩
            · rw [List.map_append, hys, hzs, HTK.out]
            · simpa [List.append_assoc] using hjz
          · refine .inr ⟨rfl, x :: (ys ++ zs), ?_, ?_⟩
            · rw [List.map_cons, HX.out, List.map_append, hys]
              simp only [preT]
              refine List.prefix_cons_inj _ |>.2 ?_
              have h1 : preL (b + 1) l = preL (b + 1) (l.take j) ++ (preT (b + 1) y ++ preL (b + 1) (l.drop (j + 1))) := by
                rw [← List.append_assoc, ← HTK.out, ← preL_append, List.take_append_drop]
              rw [h1]
              exact (List.prefix_append_right_inj _).2 (hzs.trans (List.prefix_append _ _))
            · simpa [List.append_assoc] using hjz
        have hlti : (j : Int) < l.length := by omega
        have hwb : Hid (wrap64 ((b : Int) + 1) = (b : Int) + 1) := by
          have hB' := HB.out
          simp only [Tr.size] at hB'
          exact IntWalk.wrap64_in _ (by omega)
        clear hc6 hy hyv hny hym htk hszy hCwr
        gi_wp2_with (refine ⟨trivial, hdd _, ?_⟩; rw [hwb.out]; refine (hcall.out _).mono ?_; clear hcall; rintro e W3 (⟨rfl, HW3⟩ | ⟨rfl, HX3⟩))
        · go_roundw
          case rel => exact ⟨j + 1, by omega, by go_num, HW3⟩
          case measure => simp [intOf]; omega
        · gi_wp2
          go_ret
          exact .inr ⟨rfl, HX3.out⟩
      · have ej : j = l.length := by omega
        subst ej
        gi_wp2
        go_ret
        obtain ⟨hkp, ys, hys, hjs⟩ := HW.out
        rw [List.take_length] at hys
        exact .inl ⟨rfl, ⟨x :: ys, by rw [List.map_cons, HX.out, hys]; simp only [preT], hjs⟩, hkp⟩
  · gi_wp2
    go_ret
    exact .inr ⟨rfl, [x], by simp [HX.out, preT], hx2⟩
set_option maxRecDepth 100000 in
theorem walked_any (v : Value) (w : World) (hv : Node6 v) : Calls Try.prog 37 #[v] w fun r w' => r = .returned (.func (.func 60) #[] #[.pointer (some ⟨w.heap.size, 0, none⟩)]) ∧ w' = w.alloc (.cells v.cells 27) := by
  obtain ⟨xk, xn, xu, xs, xa4, xn4, xc4, xa5, xn5, xc5, rfl⟩ := hv
  go_enter Try.func37, Try.ntmps37
  go_wp2_with fail
  go_ret
  exact ⟨rfl, rfl⟩
set_option maxRecDepth 100000 in
set_option maxHeartbeats 1000000 in
/-- What is handed back is an iterator over the tree's nodes in preorder. -/
theorem walked_stops (P : Tr → Prop) (hP : ∀ t, P t → ∀ x ∈ t.kids, P x) (n : Nat) (w0 w1 : World) (Bt lo hi : Nat) (t : Tr) (v : Value) (hn : NodeAt w0 t v) (hC : CellsK w0 w1) (hlo : w0.heap.size ≤ lo) (hhi : hi ≤ w1.heap.size) (hBt : w1.heap[Bt]? = some (.cells v.cells 27 (0, 0))) (hsz : t.size ≤ 1099511627776) (hPt : P t) :
    SeqStopsK Fence.wide n Try.prog 60 #[.pointer (some ⟨Bt, 0, none⟩)] (Visit.encs (P := P) (w0 := w0)) (KpC lo hi) (fun ys => ys.map Visit.key = preT 0 t) (fun pre => pre.map Visit.key <+: preT 0 t) t.size w1 := by
  intro lp J Jx W hW hJ hJx hY h0
  have hG : Grew w1 W := hW
  have hbt := hG.heap hBt
  have hwk := Lib.hid (walkIn_any P hP w0 lp lo hi t.size J Jx hlo (fun s A B h hg => AbidesFrom.grew hJ h hg) (fun m pre x W hj hl => YieldAt.anyM (hY pre x W hj hl)) t.size t (Nat.le_refl _) hPt (n - 1) v 0 [] W hn (hC.keep hlo (KpC.of_grew hG : KpC lo hi _ _)) (Nat.le_trans hhi hG.size) h0 (by simp) (by omega))
  obtain ⟨xk, xn, xu, xs, xa4, xn4, xc4, xa5, xn5, xc5, rfl⟩ := hn.node6
  simp only [Value.cells] at hbt
  have d0 := row_cellT hbt 0 _ rfl
  have d1 := row_cellT hbt 1 _ rfl
  have d2 := row_cellT hbt 2 _ rfl
  have d3 := row_cellT hbt 3 _ rfl
  have d4 := row_cellT hbt 4 _ rfl
  have d5 := row_cellT hbt 5 _ rfl
  have hdd : ∀ q : Nat, (Fence.wide.depth.isSome = true → 1 ≤ q) := fun q h => by cases h
  clear hn hC hlo hhi hBt hW hJ hJx hY h0 hG hbt hsz
  refine callsIn_of_wp Try.func60 rfl trivial ?_ rfl
  simp only [Try.ntmps60, List.size_toArray, List.length_cons, List.length_nil, Nat.reduceAdd, Nat.reduceSub, Array.replicate_succ, Array.replicate_zero, List.push_toArray, List.append_toArray, List.nil_append, List.cons_append]
  gi_wp2_with (refine ⟨trivial, hdd _, ?_⟩; refine hwk.out.mono ?_; clear hwk; rintro e W1 (⟨rfl, ⟨ys, hys, hj⟩, hk⟩ | ⟨rfl, ys, hys, hj⟩))
  · go_end0
    exact ⟨⟨_, rfl⟩, .inl ⟨ys, hys, by simpa using hj⟩⟩
  · go_end0
    exact ⟨⟨_, rfl⟩, .inr ⟨ys, hys, by simpa using hj⟩⟩
end Go.Proofs.Ytlhliolknaopjaa

/-
  Trees: Check. Conditions: the tree lies in memory; its size is bounded.
-/
namespace Go.Proofs.Ytlhliolknaopjaa
open Go Go.ChangeShapes Go.WideShapes Go.ChangeAt Go.RowKit Go.Joins Go.Deep Go.Shelf
set_option linter.unusedVariables false
set_option linter.unusedSimpArgs false
attribute [local go_sem] Oper.semAt_some

/-- The first error among the nodes that come, c having come. -/
def checkL (c : Nat) : List (Nat × Tr) → Int
  | [] => 0
  | (b, x) :: r => if 4096 < c + 1 then 5 else if 64 ≤ b then 61 else if suchB x = false then 60 else if keyedE x ≠ 0 then keyedE x else checkL (c + 1) r
def checkE (t : Tr) : Int := checkL 0 (preT 0 t)
theorem kept_cells {W W' : World} {row : Option Nat} (hg : W.grownBy W' row) (hr : ∀ r, row = some r → ∃ o : Obj, W.heap[r]? = some o ∧ o.isCells = false) {k : Nat} {o : Obj} (hk : W.heap[k]? = some o) (ho : o.isCells = true) : W'.heap[k]? = some o := by
  refine (hg.block k (Array.getElem?_eq_some_iff.1 hk).1 (fun e => ?_)).trans hk
  obtain ⟨q, hq, hc⟩ := hr k e.symm
  rw [hk] at hq; cases hq; rw [ho] at hc; cases hc
theorem grew_turn {w W W' : World} {row : Option Nat} {B : Nat} (h : Grew w W) (hg : W.grownBy W' row) (hr : ∀ r, row = some r → B ≤ r) (hB : w.heap.size ≤ B) : Grew w W' :=
  Below.grown h hg h.size (fun k e => Nat.le_trans hB (hr k e))
/-- What holds between two rounds of Check: no error yet, so many nodes. -/
def ChkI (w : World) (ps : List (Nat × Tr)) (W : World) : Prop :=
  W.heap[w.heap.size + 1]? = some (.cells #[.int .i64 0] 39 (0, 0)) ∧ W.heap[w.heap.size + 2]? = some (.cells #[.int .i64 ps.length] 3 (0, 0)) ∧ Grew w W ∧ ∀ rest, checkL 0 (ps ++ rest) = checkL ps.length rest
/-- What holds where a round has left. -/
def ChkX (w : World) (ps : List (Nat × Tr)) (W : World) : Prop :=
  ∃ e : Int, W.heap[w.heap.size + 1]? = some (.cells #[.int .i64 e] 39 (0, 0)) ∧ Grew w W ∧ ∀ rest, checkL 0 (ps ++ rest) = e
theorem ChkI.own (w : World) {B : Nat} (hB : w.heap.size ≤ B) : OwnFrom B (fun (s : List (Visit (fun _ => True) w)) W => ChkI w (s.map Visit.key) W) := by
  rintro s A C row ⟨h1, h2, h3, h4⟩ hg hr
  exact ⟨kept_cells hg (fun r e => (hr r e).2) h1 rfl, kept_cells hg (fun r e => (hr r e).2) h2 rfl, grew_turn h3 hg (fun r e => (hr r e).1) hB, h4⟩
theorem ChkX.own (w : World) {B : Nat} (hB : w.heap.size ≤ B) : OwnFrom B (fun (s : List (Visit (fun _ => True) w)) W => ChkX w (s.map Visit.key) W) := by
  rintro s A C row ⟨e, h1, h3, h4⟩ hg hr
  exact ⟨e, kept_cells hg (fun r e => (hr r e).2) h1 rfl, grew_turn h3 hg (fun r e => (hr r e).1) hB, h4⟩
theorem keeps_grew {B : Nat} {a b : World} (h : Grew a b) : KeepsFrom B a b := ⟨h.size, fun k o _ hk _ => (h.block k (Array.getElem?_eq_some_iff.1 hk).1).trans hk⟩
theorem KpC.setCell {lo hi : Nat} (W : World) (k : Nat) (h1 : lo ≤ k) (h2 : k < hi) (v : Value) : KpC lo hi W (W.setCell ⟨k, 0, none⟩ v) :=
  ⟨by simp [World.setCell], fun i o ho _ hr => (Below.heap_setCell W _ v i (by show i ≠ k; omega)).trans ho⟩
theorem chk_grew {w W : World} {k : Nat} (h : Grew w W) (hk : w.heap.size ≤ k) (v : Value) : Grew w (W.setCell ⟨k, 0, none⟩ v) := Below.setCell h hk v
theorem chk_ret {w W : World} {e e0 : Int} {ps : List (Nat × Tr)} (h1 : W.heap[w.heap.size + 1]? = some (.cells #[.int .i64 e0] 39 (0, 0))) (hg : Grew w W) (h : ∀ rest, checkL 0 (ps ++ rest) = e) : ChkX w ps (W.setCell ⟨w.heap.size + 1, 0, none⟩ (.int .i64 e)) :=
  ⟨e, by have := heap_setCell_same W (w.heap.size + 1) 0 _ _ (.int .i64 e) h1; simpa using this, chk_grew hg (by omega) _, h⟩
set_option maxRecDepth 100000 in
set_option maxHeartbeats 4000000 in
theorem check_any (t : Tr) (v : Value) (w : World) (hn : NodeAt w t v) (hsz : t.size ≤ 1099511627776) :
    Calls Try.prog 19 #[v] w fun r w' => r = .returned (.int .i64 (checkE t)) ∧ Grew w w' := by
  have h6 := hn.node6
  refine (callsIn_wide (n := 3)).1 ?_
  obtain ⟨xk, xn, xu, xs, xa4, xn4, xc4, xa5, xn5, xc5, rfl⟩ := h6
  refine callsIn_of_wp_marks Try.func19 rfl trivial ?_ rfl
  simp only [Try.ntmps19, List.size_toArray, List.length_cons, List.length_nil, Nat.reduceAdd, Nat.reduceSub, Array.replicate_succ, Array.replicate_zero, List.push_toArray, List.append_toArray, List.nil_append, List.cons_append]
  have hdd : ∀ q : Nat, (Fence.wide.depth.isSome = true → 1 ≤ q) := fun q h => by cases h
  gi_wp2_with (refine ⟨trivial, ?_⟩; refine (callsIn_wide.2 (walked_any _ _ ⟨_, _, _, _, _, _, _, _, _, _, rfl⟩)).mono ?_; rintro r w2 ⟨rfl, hw2⟩; have HW2 := Lib.hid hw2; clear hw2)
  obtain ⟨V, hV⟩ : ∃ V : Value, V = .agg #[.int .i64 xk, .int .i64 xn, .int .u64 xu, .string xs, .slice xa4 xn4 xc4, .slice xa5 xn5 xc5] := ⟨_, rfl⟩
  rw [← hV] at hn
  have HV := Lib.hid hV
  have hF : Hid (Grew w w2 ∧ w2.heap.size = w.heap.size + 4 ∧ w2.heap[w.heap.size + 1]? = some (.cells #[.int .i64 0] 39 (0, 0)) ∧ w2.heap[w.heap.size + 2]? = some (.cells #[.int .i64 0] 3 (0, 0)) ∧ w2.heap[w.heap.size + 3]? = some (.cells V.cells 27 (0, 0))) := by
    show _ ∧ _
    rw [HW2.out, hV]
    obtain ⟨A, hA⟩ : ∃ A, w.alloc (.cells #[.int .i64 xk, .int .i64 xn, .int .u64 xu, .string xs, .slice xa4 xn4 xc4, .slice xa5 xn5 xc5] 27) = A := ⟨_, rfl⟩
    have sA : A.heap.size = w.heap.size + 1 := by rw [← hA, World.size_alloc]
    have gA : Grew w A := by rw [← hA]; exact (Grew.refl _).alloc _
    rw [hA]
    obtain ⟨B, hB⟩ : ∃ B, A.alloc (.cells #[.int .i64 0] 39) = B := ⟨_, rfl⟩
    have sB : B.heap.size = w.heap.size + 2 := by rw [← hB, World.size_alloc, sA]
    have gB : Grew A B := by rw [← hB]; exact (Grew.refl _).alloc _
    have bB := heap_alloc_new A (.cells #[.int .i64 0] 39)
    rw [hB, sA] at bB
    rw [hB]
    obtain ⟨C, hC⟩ : ∃ C, B.alloc (.cells #[.int .i64 0] 3) = C := ⟨_, rfl⟩
    have sC : C.heap.size = w.heap.size + 3 := by rw [← hC, World.size_alloc, sB]
    have gC : Grew B C := by rw [← hC]; exact (Grew.refl _).alloc _
    have bC := heap_alloc_new B (.cells #[.int .i64 0] 3)
    rw [hC, sB] at bC
    rw [hC]
    have gD := (Grew.refl C).alloc (.cells (Value.agg #[.int .i64 xk, .int .i64 xn, .int .u64 xu, .string xs, .slice xa4 xn4 xc4, .slice xa5 xn5 xc5]).cells 27)
    have bD := heap_alloc_new C (.cells (Value.agg #[.int .i64 xk, .int .i64 xn, .int .u64 xu, .string xs, .slice xa4 xn4 xc4, .slice xa5 xn5 xc5]).cells 27)
    rw [sC] at bD
    exact ⟨gA.trans (gB.trans (gC.trans gD)), by rw [World.size_alloc, sC], gD.heap (gC.heap bB), gD.heap bC, bD⟩
  refine wpIn_rangeFunc_ownH rfl (by omega) (gf := 60) (lb := #[.pointer (some ⟨w.heap.size + 3, 0, none⟩)]) rfl trivial (enters_of Try.func60 (by kernel_rfl) rfl)
    (walked_stops (fun _ => True) (fun _ _ _ _ => trivial) _ w w2 (w.heap.size + 3) w.heap.size (w.heap.size + 3) t V hn (CellsK.of_grew hF.out.1) (Nat.le_refl _) (by have := hF.out.2.1; omega) hF.out.2.2.2.2 hsz trivial)
    KpC.trans (fun W l o o' _ h ho _ => KpC.turn W l o o' h ho) (Below.refl _ _) (fun _ => rfl)
    (fun pre W => ChkI w (pre.map Visit.key) W) (fun c pre W => c = .ret ∧ ChkX w (pre.map Visit.key) W)
    (ChkI.own w hF.out.1.size) (fun c => OwnFrom.and (ownFrom_pure _ _) (ChkX.own w hF.out.1.size))
    ⟨hF.out.2.2.1, hF.out.2.2.2.1, hF.out.1, fun rest => rfl⟩
    (fun x a' W => ∃ Bx, w.heap.size + 3 ≤ Bx ∧ W.heap[Bx]? = some (.cells x.1.2.1.cells 27 (0, 0)) ∧ a' = { tmps := #[.agg #[.int .i64 xk, .int .i64 xn, .int .u64 xu, .string xs, .slice xa4 xn4 xc4, .slice xa5 xn5 xc5], .pointer (some ⟨w.heap.size, 0, none⟩), .pointer (some ⟨w.heap.size + 1, 0, none⟩), .pointer (some ⟨w.heap.size + 2, 0, none⟩), .int .i64 x.1.1, .pointer (some ⟨Bx, 0, none⟩), undef, .agg #[.int .i64 xk, .int .i64 xn, .int .u64 xu, .string xs, .slice xa4 xn4 xc4, .slice xa5 xn5 xc5], .func (.func 60) #[] #[.pointer (some ⟨w.heap.size + 3, 0, none⟩)], .int .i64 x.1.1, x.1.2.1, undef, undef, undef, undef, undef, undef, undef, undef, undef, undef, undef, undef, undef, undef, undef, undef, undef], defers := [] })
    ?hAx ?assign ?body ?done ?stop
  case hAx =>
    rintro x a' s A C row ⟨Bx, h1, h2, h3⟩ hg hr
    exact ⟨Bx, h1, kept_cells hg (fun r e => (hr r e).2) h2 rfl, h3⟩
  case assign =>
    rintro l pre ⟨⟨b, v, x⟩, hx, hb⟩ W K hi hK
    obtain ⟨yk, yn, yu, ys, ya4, yn4, yc4, ya5, yn5, yc5, rfl⟩ := hx.node6
    have HI := Lib.hid hi
    have HK := Lib.hid hK
    have HFF := Lib.hid hF.out
    have hz : ∀ W : World, W.heap.size = W.heap.size := fun _ => rfl
    clear hi hK hn hV HW2 HFF
    simp only [Visit.encs]
    gi_wp2
    refine HK.out _ _ (KeepsOthers.from (KeepsOthers.alloc _ _) _) (KpC.of_grew ((Grew.refl W).alloc _)) ?_ ⟨W.heap.size, ?_, heap_alloc_new _ _, rfl⟩
    · exact (ChkI.own w hF.out.1.size).alloc _ HI.out
    · have h1 := (Array.getElem?_eq_some_iff.1 HI.out.2.1).1
      omega
  case body =>
    rintro l pre X a' W hl _ hi ⟨Bx, hBx, hbx, rfl⟩ hlt
    obtain ⟨b, v, x, hX, hx, hb⟩ : ∃ b v x, X.1 = (b, v, x) ∧ NodeAt w x v ∧ b ≤ 1099511627776 := ⟨X.1.1, X.1.2.1, X.1.2.2, rfl, X.2.1, X.2.2.1⟩
    have HXK : Hid (X.key = (b, x)) := by show _ = _; simp [Visit.key, hX]
    rw [hX] at hbx ⊢
    clear hX
    have hxn := hx
    obtain ⟨yk, yn, yu, ys, ya4, yn4, yc4, ya5, yn5, yc5, rfl⟩ := hx.node6
    obtain ⟨i1, i2, i3, i4⟩ := hi
    rw [List.length_map] at i2 i4
    simp only [Value.cells] at hbx
    have hwr : wrap64 ((pre.length : Int) + 1) = (pre.length : Int) + 1 := IntWalk.wrap64_in _ (by omega)
    have q2 := row_cellT i2 0 _ rfl
    have f2 := row_frozen i2 0
    obtain ⟨W', hW'⟩ : ∃ W', W.setCell ⟨w.heap.size + 2, 0, none⟩ (.int .i64 ((pre.length : Int) + 1)) = W' := ⟨_, rfl⟩
    have hm : Moved (fun g => g = w.heap.size + 2) W W' := by rw [← hW']; exact Moved.setCell (S := fun g => g = w.heap.size + 2) (p := ⟨w.heap.size + 2, 0, none⟩) (Moved.refl _ W) (fun _ => rfl) _
    have j1 := hm.heap i1 (by omega)
    have j2 : W'.heap[w.heap.size + 2]? = some (.cells #[.int .i64 ((pre.length : Int) + 1)] 3 (0, 0)) := by rw [← hW']; have := heap_setCell_same W (w.heap.size + 2) 0 _ _ (.int .i64 ((pre.length : Int) + 1)) i2; simpa using this
    have jb := hm.heap hbx (by omega)
    have j3 : Grew w W' := Moved.fresh i3 hm (fun g h => by omega)
    have HKF : Hid (KeepsFrom w2.heap.size W W' ∧ KpC w.heap.size (w.heap.size + 3) W W') := by
      show _ ∧ _
      rw [← hW']
      exact ⟨KeepsOthers.from (KeepsOthers.setCell _ _ _) _, KpC.setCell _ _ (by omega) (by omega) _⟩
    have HSUCH := Lib.hid (such_any x _ _ (hxn.grew j3))
    have HKEY : Hid (∀ w3, Grew W' w3 → Calls Try.prog 39 #[.agg #[.int .i64 yk, .int .i64 yn, .int .u64 yu, .string ys, .slice ya4 yn4 yc4, .slice ya5 yn5 yc5]] w3 fun r w' => r = .returned (.int .i64 (keyedE x)) ∧ Grew w3 w') := fun w3 hg => keyed_any x _ _ (hxn.grew (j3.trans hg))
    have HE : Hid (∀ rest, checkL 0 ((pre.map Visit.key ++ [(b, x)]) ++ rest) = if 4096 < pre.length + 1 then 5 else if 64 ≤ b then 61 else if suchB x = false then 60 else if keyedE x ≠ 0 then keyedE x else checkL (pre.length + 1) rest) := by
      intro rest
      rw [List.append_assoc, i4]
      rfl
    have HJ := Lib.hid (And.intro j1 (And.intro j2 (And.intro jb j3)))
    have c2 := row_cellT j2 0 _ rfl
    have c1 := row_cellT j1 0 _ rfl
    have f1 := row_frozen j1 0
    have e0 := row_cellT jb 0 _ rfl
    have e1 := row_cellT jb 1 _ rfl
    have e2 := row_cellT jb 2 _ rfl
    have e3 := row_cellT jb 3 _ rfl
    have e4 := row_cellT jb 4 _ rfl
    have e5 := row_cellT jb 5 _ rfl
    have hbi : (b : Int) ≤ 1099511627776 := by omega
    clear i1 i2 i3 i4 hbx hm j1 j2 jb j3 hx hl hlt hn hV HW2 hxn hb
    have HRET : Hid (∀ (W3 : World) (e : Int), Grew W' W3 → (∀ rest, checkL 0 ((pre.map Visit.key ++ [(b, x)]) ++ rest) = e) → KeepsFrom w2.heap.size W (W3.setCell ⟨w.heap.size + 1, 0, none⟩ (.int .i64 e)) ∧ ChkX w (List.map Visit.key (pre ++ [X])) (W3.setCell ⟨w.heap.size + 1, 0, none⟩ (.int .i64 e))) := by
      intro W3 e hg he
      refine ⟨(HKF.out.1.trans (keeps_grew hg)).trans (KeepsOthers.from (KeepsOthers.setCell _ _ _) _), ?_⟩
      rw [show List.map Visit.key (pre ++ [X]) = pre.map Visit.key ++ [(b, x)] by rw [List.map_append, List.map_singleton, HXK.out]]
      exact chk_ret (hg.heap HJ.out.1) (HJ.out.2.2.2.trans hg) he
    by_cases h1 : 4096 < pre.length + 1
    · have h1i : (4096 : Int) < (pre.length : Int) + 1 := by omega
      have HF1 := Lib.hid h1
      clear h1
      gi_wp2
      have q := HRET.out W' 5 (Grew.refl _) (fun rest => by rw [HE.out rest, if_pos HF1.out])
      exact ⟨q.1, rfl, q.2⟩
    have h1i : ¬ (4096 : Int) < (pre.length : Int) + 1 := by omega
    have HF1 := Lib.hid h1
    clear h1
    by_cases h2 : 64 ≤ b
    · have h2i : (64 : Int) ≤ (b : Int) := by omega
      have HF2 := Lib.hid h2
      clear h2
      gi_wp2
      have q := HRET.out W' 61 (Grew.refl _) (fun rest => by rw [HE.out rest, if_neg HF1.out, if_pos HF2.out])
      exact ⟨q.1, rfl, q.2⟩
    have h2i : ¬ (64 : Int) ≤ (b : Int) := by omega
    have HF2 := Lib.hid h2
    clear h2
    cases hs : suchB x
    · rw [hs] at HSUCH
      have HS := Lib.hid hs
      clear hs
      gi_wp2_with (refine ⟨trivial, ?_⟩; refine (CallsIn.inRound l (callsIn_wide.2 HSUCH.out)).mono ?_; rintro r w3 ⟨rfl, hg3⟩; have d1 := row_cellT (hg3.heap HJ.out.1) 0 _ rfl; have g1 := row_frozen (hg3.heap HJ.out.1) 0; have HG3 := Lib.hid hg3; clear hg3)
      have q := HRET.out _ 60 HG3.out (fun rest => by rw [HE.out rest, if_neg HF1.out, if_neg HF2.out, if_pos HS.out])
      exact ⟨q.1, rfl, q.2⟩
    · rw [hs] at HSUCH
      have HS : Hid (¬ suchB x = false) := by show ¬ _; rw [hs]; simp
      clear hs
      obtain ⟨E, hE⟩ : ∃ E, keyedE x = E := ⟨_, rfl⟩
      rw [hE] at HKEY
      by_cases h4 : E = 0
      · subst h4
        gi_wp2_with (first
          | (refine ⟨trivial, ?_⟩; gi_at_call 38; refine (CallsIn.inRound l (callsIn_wide.2 HSUCH.out)).mono ?_; clear HSUCH; rintro r w3 ⟨rfl, hg3⟩; have d0 := row_cellT (hg3.heap HJ.out.2.2.1) 0 _ rfl; have d1 := row_cellT (hg3.heap HJ.out.2.2.1) 1 _ rfl; have d2 := row_cellT (hg3.heap HJ.out.2.2.1) 2 _ rfl; have d3 := row_cellT (hg3.heap HJ.out.2.2.1) 3 _ rfl; have d4 := row_cellT (hg3.heap HJ.out.2.2.1) 4 _ rfl; have d5 := row_cellT (hg3.heap HJ.out.2.2.1) 5 _ rfl; have HG3 := Lib.hid hg3; clear hg3)
          | (refine ⟨trivial, ?_⟩; gi_at_call 39; refine (CallsIn.inRound l (callsIn_wide.2 (HKEY.out _ HG3.out))).mono ?_; clear HKEY; rintro r w4 ⟨rfl, hg4⟩; have HG4 := Lib.hid (HG3.out.trans hg4); have g1 := row_frozen (HG4.out.heap HJ.out.1) 0; have r1 := row_cellT (HG4.out.heap HJ.out.1) 0 _ rfl; clear hg4))
        refine ⟨HKF.out.1.trans (keeps_grew HG4.out), HKF.out.2.trans (KpC.of_grew HG4.out), ?_⟩
        show ChkI w (List.map Visit.key (pre ++ [X])) _
        rw [show List.map Visit.key (pre ++ [X]) = pre.map Visit.key ++ [(b, x)] by rw [List.map_append, List.map_singleton, HXK.out]]
        refine ⟨HG4.out.heap HJ.out.1, ?_, HJ.out.2.2.2.trans HG4.out, fun rest => ?_⟩
        · rw [List.length_append, List.length_map]
          exact HG4.out.heap HJ.out.2.1
        · rw [HE.out rest, if_neg HF1.out, if_neg HF2.out, if_neg HS.out, if_neg (by rw [hE]; simp), List.length_append, List.length_map]
          rfl
      · have h4b : (E == 0) = false := by simpa using h4
        have HE4 := Lib.hid h4
        have HEE := Lib.hid hE
        clear h4 hE
        gi_wp2_with (first
          | (refine ⟨trivial, ?_⟩; gi_at_call 38; refine (CallsIn.inRound l (callsIn_wide.2 HSUCH.out)).mono ?_; clear HSUCH; rintro r w3 ⟨rfl, hg3⟩; have d0 := row_cellT (hg3.heap HJ.out.2.2.1) 0 _ rfl; have d1 := row_cellT (hg3.heap HJ.out.2.2.1) 1 _ rfl; have d2 := row_cellT (hg3.heap HJ.out.2.2.1) 2 _ rfl; have d3 := row_cellT (hg3.heap HJ.out.2.2.1) 3 _ rfl; have d4 := row_cellT (hg3.heap HJ.out.2.2.1) 4 _ rfl; have d5 := row_cellT (hg3.heap HJ.out.2.2.1) 5 _ rfl; have HG3 := Lib.hid hg3; clear hg3)
          | (refine ⟨trivial, ?_⟩; gi_at_call 39; refine (CallsIn.inRound l (callsIn_wide.2 (HKEY.out _ HG3.out))).mono ?_; clear HKEY; rintro r w4 ⟨rfl, hg4⟩; have HG4 := Lib.hid (HG3.out.trans hg4); have g1 := row_frozen (HG4.out.heap HJ.out.1) 0; have r1 := row_cellT (HG4.out.heap HJ.out.1) 0 _ rfl; clear hg4))
        have q := HRET.out _ E HG4.out (fun rest => by rw [HE.out rest, if_neg HF1.out, if_neg HF2.out, if_neg HS.out, HEE.out, if_pos HE4.out])
        exact ⟨q.1, rfl, q.2⟩
  case done =>
    rintro D ys W hD hys ⟨h1, h2, h3, h4⟩ hK
    have HZ : Hid (checkE t = 0) := by
      have := h4 []
      rw [List.append_nil, hys] at this
      exact this
    have c1 := row_cellT h1 0 _ rfl
    have f1 := row_frozen h1 0
    obtain ⟨W', hW'⟩ : ∃ W', W.setCell ⟨w.heap.size + 1, 0, none⟩ (.int .i64 0) = W' := ⟨_, rfl⟩
    have hdl := hF.out.2.1
    have hm : Moved (fun g => g = w.heap.size + 1) W W' := by rw [← hW']; exact Moved.setCell (S := fun g => g = w.heap.size + 1) (p := ⟨w.heap.size + 1, 0, none⟩) (Moved.refl _ W) (fun _ => rfl) _
    have hK' := hm.heap hK (by omega)
    have hb' : W'.heap[w.heap.size + 1]? = some (.cells #[.int .i64 0] 39 (0, 0)) := by rw [← hW']; have := heap_setCell_same W (w.heap.size + 1) 0 _ _ (.int .i64 0) h1; simpa using this
    have hg' : Grew w W' := Moved.fresh h3 hm (fun g h => by omega)
    have HB := Lib.hid (And.intro hb' hg')
    have HKK := Lib.hid hK'
    have HDL : Hid (w.heap.size + 4 ≤ D) := by show _ ≤ _; omega
    clear h1 h2 h3 h4 hys hm hK hK' hb' hg' hD hdl hn hV HW2
    gi_wp2
    refine ⟨by simp, .inl ⟨_, _, rfl, run_takeDeferred HKK.out, ?_⟩⟩
    have hput : Grew w (W'.putObj D (.deferred none)) := grew_turn HB.out.2 (grownBy_putObj' W' D _) (fun r e => by cases e; exact Nat.le_refl _) (by have := HDL.out; omega)
    have hcell := row_cellT ((World.putObj_heap_other (by have := HDL.out; omega : w.heap.size + 1 ≠ D)).trans HB.out.1 : (W'.putObj D (.deferred none)).heap[w.heap.size + 1]? = _) 0 _ rfl
    refine ⟨.int .i64 0, by simp [results, Try.results19, go_sem, hcell], by rw [HZ.out], hput⟩
  case stop =>
    rintro D c pre W' hD ⟨zs, hpre⟩ ⟨rfl, e, h1, h2, h3⟩ hK
    have HZ : Hid (checkE t = e) := by
      have := h3 zs
      rw [hpre] at this
      exact this
    have hdl := hF.out.2.1
    have HB := Lib.hid (And.intro h1 h2)
    have HKK := Lib.hid hK
    have HDL : Hid (w.heap.size + 4 ≤ D) := by show _ ≤ _; omega
    clear h1 h2 h3 hpre hK hD hdl hn hV HW2
    gi_wp2
    refine ⟨by simp, .inl ⟨_, _, rfl, run_takeDeferred HKK.out, ?_⟩⟩
    have hput : Grew w (W'.putObj D (.deferred none)) := grew_turn HB.out.2 (grownBy_putObj' W' D _) (fun r e => by cases e; exact Nat.le_refl _) (by have := HDL.out; omega)
    have hcell := row_cellT ((World.putObj_heap_other (by have := HDL.out; omega : w.heap.size + 1 ≠ D)).trans HB.out.1 : (W'.putObj D (.deferred none)).heap[w.heap.size + 1]? = _) 0 _ rfl
    refine ⟨.int .i64 e, by simp [results, Try.results19, go_sem, hcell], by rw [HZ.out], hput⟩
end Go.Proofs.Ytlhliolknaopjaa
