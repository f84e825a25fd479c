/-
  Texts of the proof, part 3 of 9.
-/
import Derived.Test.YtlhliolknaopjaaPB
import Derived.Test.YtlhliolknaopjaaPA
import Derived.Laws.StructEq
import Derived.MapKept
import Derived.StillTail

/-
  Denote: the methods that look at one datum, on. Conditions: the bytes, the tree lie in memory.
-/
namespace Go.Proofs.Ytlhliolknaopjaa
open Go Go.ChangeShapes Go.WideShapes Go.ChangeAt Go.RowKit Go.Joins Go.Deep
set_option linter.unusedVariables false
set_option linter.unusedSimpArgs false

theorem ends_size (s : ByteArray) : (ends s).size = s.size + 1 := by simp [ends, ByteArray.size_append]; rfl
set_option maxRecDepth 100000 in
set_option maxHeartbeats 4000000 in
theorem bool_any (d : List UInt8) (dv : Value) (pos par typ wid at_ : Int) (t : Tr) (tv : Value) (w : World) (hD : DocAt w dv d) (hn : NodeAt w t tv) (hp : i64ok pos) : Calls Try.prog 76 #[dv, .agg #[.int .i64 pos, .int .i64 par, .int .i64 typ, .int .i64 wid], .int .i64 at_, tv] w fun r w' => r = .returned (.bool (boolF d pos par t)) ∧ Grew w w' := by
  have HD := Lib.hid hD
  have HT := Lib.hid hn
  obtain ⟨da, dc, rfl, _⟩ := hD.form
  obtain ⟨tk, tn, tu, ts, ta4, tn4, tc4, ta5, tn5, tc5, rfl⟩ := hn.node6
  obtain ⟨ek, en, eu, es⟩ := kind_of hn
  have HK : Hid (tk = t.kind ∧ tn = t.fn ∧ tu = t.fu ∧ ts = t.fs) := ⟨ek, en, eu, es⟩
  clear hD hn ek en eu es
  have HG := Lib.hid (Grew.refl w)
  obtain ⟨res, hres⟩ : ∃ b, boolF d pos par t = b := ⟨_, rfl⟩
  rw [hres]
  have HRES := Lib.hid hres
  clear hres
  have HLD : Hid (∀ w', DocAt w' (.slice da d.length dc) d → Calls Try.prog 84 #[.slice da d.length dc, .int .i64 pos, .int .i64 par] w' fun r w2 => r = .returned (.tuple #[.int .u64 (loadF d pos par).1, .int .i64 (loadF d pos par).2]) ∧ Grew w' w2) := fun w' h => loadD_any _ d h.1 (by have := h.2.1; omega) pos par hp (fun ad n c e => (h.2.2 ad n c e).1)
  have hpos := loadF_pos d pos par
  unfold boolF at HRES
  generalize loadF d pos par = q at *
  obtain ⟨lu, le⟩ := q
  simp only at HLD hpos HRES
  have HPOS := Lib.hid hpos
  clear hpos
  go_enter Try.func76, Try.ntmps76
  go_upto_region 1 with fail
  obtain ⟨pr, hpr⟩ : ∃ N, w.heap.size = N := ⟨_, rfl⟩
  have hr1 := heap_alloc_new w (.cells #[.int .i64 pos, .int .i64 par, .int .i64 typ, .int .i64 wid] 35)
  have hga := (Grew.refl w).alloc (.cells #[.int .i64 pos, .int .i64 par, .int .i64 typ, .int .i64 wid] 35)
  have hz1 : (w.alloc (.cells #[.int .i64 pos, .int .i64 par, .int .i64 typ, .int .i64 wid] 35)).heap.size = pr + 1 := by rw [World.size_alloc, hpr]
  generalize (w.alloc (.cells #[.int .i64 pos, .int .i64 par, .int .i64 typ, .int .i64 wid] 35)) = x1 at *
  rw [hpr] at hr1
  try rw [hpr]
  have HRR := Lib.hid hr1
  clear hr1 hpr
  replace HD := Lib.hid (DocAt.grew HD.out hga)
  replace HT := Lib.hid (NodeAt.grew hga HT.out)
  replace HG := Lib.hid (HG.out.trans hga)
  clear hga
  have hr2 := heap_alloc_new x1 (.cells #[.int .i64 tk, .int .i64 tn, .int .u64 tu, .string ts, .slice ta4 tn4 tc4, .slice ta5 tn5 tc5] 27)
  have hga := (Grew.refl x1).alloc (.cells #[.int .i64 tk, .int .i64 tn, .int .u64 tu, .string ts, .slice ta4 tn4 tc4, .slice ta5 tn5 tc5] 27)
  generalize (x1.alloc (.cells #[.int .i64 tk, .int .i64 tn, .int .u64 tu, .string ts, .slice ta4 tn4 tc4, .slice ta5 tn5 tc5] 27)) = x2 at *
  rw [hz1] at hr2
  try rw [hz1]
  have HRT := Lib.hid hr2
  clear hr2 hz1
  replace HD := Lib.hid (DocAt.grew HD.out hga)
  replace HT := Lib.hid (NodeAt.grew hga HT.out)
  replace HRR := Lib.hid (hga.heap HRR.out)
  replace HG := Lib.hid (HG.out.trans hga)
  clear hga
  have c0 := row_cellT HRR.out 0 _ rfl
  have c1 := row_cellT HRR.out 1 _ rfl
  have c2 := row_cellT HRR.out 2 _ rfl
  have c3 := row_cellT HRR.out 3 _ rfl
  have e0 := row_cellT HRT.out 0 _ rfl
  have e1 := row_cellT HRT.out 1 _ rfl
  have e2 := row_cellT HRT.out 2 _ rfl
  have e3 := row_cellT HRT.out 3 _ rfl
  have e4 := row_cellT HRT.out 4 _ rfl
  have e5 := row_cellT HRT.out 5 _ rfl
  go_wp2_with fail
  refine (HLD.out _ HD.out).mono ?_
  rintro r u1 ⟨rfl, hgc⟩
  clear c0 c1 c2 c3
  clear e0 e1 e2 e3 e4 e5
  replace HD := Lib.hid (DocAt.grew HD.out hgc)
  replace HT := Lib.hid (NodeAt.grew hgc HT.out)
  replace HRR := Lib.hid (hgc.heap HRR.out)
  replace HRT := Lib.hid (hgc.heap HRT.out)
  replace HG := Lib.hid (HG.out.trans hgc)
  clear hgc
  have e0 := row_cellT HRT.out 0 _ rfl
  have e1 := row_cellT HRT.out 1 _ rfl
  have e2 := row_cellT HRT.out 2 _ rfl
  have e3 := row_cellT HRT.out 3 _ rfl
  have e4 := row_cellT HRT.out 4 _ rfl
  have e5 := row_cellT HRT.out 5 _ rfl
  have hh0 := HT.out.grew ((Grew.refl u1).alloc (.cells #[.int .i64 2, .int .i64 0, .int .u64 0, .string ⟨#[]⟩, .slice none 0 0, .slice none 0 0] 27))
  have hh1 := HT.out.grew ((Grew.refl u1).alloc (.cells #[.int .i64 2, .int .i64 1, .int .u64 0, .string ⟨#[]⟩, .slice none 0 0, .slice none 0 0] 27))
  have HH := Lib.hid (And.intro hh0 hh1)
  have HA0 := Lib.hid (HG.out.trans ((Grew.refl u1).alloc (.cells #[.int .i64 2, .int .i64 0, .int .u64 0, .string ⟨#[]⟩, .slice none 0 0, .slice none 0 0] 27)))
  have HA1 := Lib.hid (HG.out.trans ((Grew.refl u1).alloc (.cells #[.int .i64 2, .int .i64 1, .int .u64 0, .string ⟨#[]⟩, .slice none 0 0, .slice none 0 0] 27)))
  clear hh0 hh1
  have ee0 := fun o => ((Grew.refl u1).alloc o).cell e0
  have ee1 := fun o => ((Grew.refl u1).alloc o).cell e1
  have ee2 := fun o => ((Grew.refl u1).alloc o).cell e2
  have ee3 := fun o => ((Grew.refl u1).alloc o).cell e3
  have ee4 := fun o => ((Grew.refl u1).alloc o).cell e4
  have ee5 := fun o => ((Grew.refl u1).alloc o).cell e5
  by_cases hle : le = 0
  rotate_left
  · have hb : (le == 0) = false := by simpa using hle
    have hu0 : lu = 0 := HPOS.out.2.2 hle
    have HV : Hid (res = false) := by show _ = _; rw [← HRES.out, decide_eq_false hle]; rfl
    subst hu0
    clear hle
    go_wp2_with fail
    go_ret
    exact ⟨by rw [HV.out]; rfl, HA0.out⟩
  subst hle
  by_cases hu : lu = 0
  · have hb : (lu != 0) = false := by simpa using hu
    have HV : Hid (res = bareF t 2 0 0 EMB) := by show _ = _; rw [← HRES.out, if_pos hu]; rfl
    clear hu
    go_wp2_with fail
    refine (bare_any t _ 2 0 0 ⟨#[]⟩ _ HH.out.1).mono ?_
    rintro r u3 ⟨rfl, hg3⟩
    have HG3 := Lib.hid (HA0.out.trans hg3)
    clear hg3
    go_wp2_with fail
    go_ret
    exact ⟨by rw [HV.out]; rfl, HG3.out⟩
  · have hb : (lu != 0) = true := by simpa using hu
    have HV : Hid (res = bareF t 2 1 0 EMB) := by show _ = _; rw [← HRES.out, if_neg hu]; rfl
    clear hu
    go_wp2_with fail
    refine (bare_any t _ 2 1 0 ⟨#[]⟩ _ HH.out.2).mono ?_
    rintro r u3 ⟨rfl, hg3⟩
    have HG3 := Lib.hid (HA1.out.trans hg3)
    clear hg3
    go_wp2_with fail
    go_ret
    exact ⟨by rw [HV.out]; rfl, HG3.out⟩
set_option maxRecDepth 100000 in
set_option maxHeartbeats 4000000 in
theorem key_any (d : List UInt8) (dv : Value) (pos par typ wid at_ : Int) (t : Tr) (tv : Value) (w : World) (hD : DocAt w dv d) (hn : NodeAt w t tv) (hp : 0 ≤ at_ ∧ at_ ≤ 1048576) (hs : t.fs.size ≤ 1000) : Calls Try.prog 77 #[dv, .agg #[.int .i64 pos, .int .i64 par, .int .i64 typ, .int .i64 wid], .int .i64 at_, tv] w fun r w' => r = .returned (.bool (keyF d at_ t)) ∧ Grew w w' := by
  have HD := Lib.hid hD
  have HT := Lib.hid hn
  obtain ⟨da, dc, rfl, _⟩ := hD.form
  obtain ⟨tk, tn, tu, ts, ta4, tn4, tc4, ta5, tn5, tc5, rfl⟩ := hn.node6
  obtain ⟨ek, en, eu, es⟩ := kind_of hn
  have HK : Hid (tk = t.kind ∧ tn = t.fn ∧ tu = t.fu ∧ ts = t.fs) := ⟨ek, en, eu, es⟩
  clear hD hn ek en eu es
  have HG := Lib.hid (Grew.refl w)
  obtain ⟨res, hres⟩ : ∃ b, keyF d at_ t = b := ⟨_, rfl⟩
  rw [hres]
  have HRES := Lib.hid hres
  clear hres
  go_enter Try.func77, Try.ntmps77
  go_upto_region 1 with fail
  obtain ⟨pr, hpr⟩ : ∃ N, w.heap.size = N := ⟨_, rfl⟩
  have hr1 := heap_alloc_new w (.cells #[.int .i64 pos, .int .i64 par, .int .i64 typ, .int .i64 wid] 35)
  have hga := (Grew.refl w).alloc (.cells #[.int .i64 pos, .int .i64 par, .int .i64 typ, .int .i64 wid] 35)
  have hz1 : (w.alloc (.cells #[.int .i64 pos, .int .i64 par, .int .i64 typ, .int .i64 wid] 35)).heap.size = pr + 1 := by rw [World.size_alloc, hpr]
  generalize (w.alloc (.cells #[.int .i64 pos, .int .i64 par, .int .i64 typ, .int .i64 wid] 35)) = x1 at *
  rw [hpr] at hr1
  try rw [hpr]
  have HRR := Lib.hid hr1
  clear hr1 hpr
  replace HD := Lib.hid (DocAt.grew HD.out hga)
  replace HT := Lib.hid (NodeAt.grew hga HT.out)
  replace HG := Lib.hid (HG.out.trans hga)
  clear hga
  have hr2 := heap_alloc_new x1 (.cells #[.int .i64 tk, .int .i64 tn, .int .u64 tu, .string ts, .slice ta4 tn4 tc4, .slice ta5 tn5 tc5] 27)
  have hga := (Grew.refl x1).alloc (.cells #[.int .i64 tk, .int .i64 tn, .int .u64 tu, .string ts, .slice ta4 tn4 tc4, .slice ta5 tn5 tc5] 27)
  generalize (x1.alloc (.cells #[.int .i64 tk, .int .i64 tn, .int .u64 tu, .string ts, .slice ta4 tn4 tc4, .slice ta5 tn5 tc5] 27)) = x2 at *
  rw [hz1] at hr2
  try rw [hz1]
  have HRT := Lib.hid hr2
  clear hr2 hz1
  replace HD := Lib.hid (DocAt.grew HD.out hga)
  replace HT := Lib.hid (NodeAt.grew hga HT.out)
  replace HRR := Lib.hid (hga.heap HRR.out)
  replace HG := Lib.hid (HG.out.trans hga)
  clear hga
  have c0 := row_cellT HRR.out 0 _ rfl
  have c1 := row_cellT HRR.out 1 _ rfl
  have c2 := row_cellT HRR.out 2 _ rfl
  have c3 := row_cellT HRR.out 3 _ rfl
  have e0 := row_cellT HRT.out 0 _ rfl
  have e1 := row_cellT HRT.out 1 _ rfl
  have e2 := row_cellT HRT.out 2 _ rfl
  have e3 := row_cellT HRT.out 3 _ rfl
  have e4 := row_cellT HRT.out 4 _ rfl
  have e5 := row_cellT HRT.out 5 _ rfl
  have HSZ : Hid (ts.size ≤ 1000) := by rw [HK.out.2.2.2]; exact hs
  clear hs
  go_wp2_with fail
  obtain ⟨b1, hb1⟩ : ∃ b, bareF t 5 0 0 ts = b := ⟨_, rfl⟩
  have hh := bare_any t _ 5 0 0 ts _ HT.out
  rw [hb1] at hh
  have HB1 : Hid (bareF t 5 0 0 t.fs = b1) := by rw [← HK.out.2.2.2]; exact hb1
  clear hb1
  refine hh.mono ?_
  clear hh
  rintro r u1 ⟨rfl, hgc⟩
  clear c0 c1 c2 c3
  clear e0 e1 e2 e3 e4 e5
  replace HD := Lib.hid (DocAt.grew HD.out hgc)
  replace HT := Lib.hid (NodeAt.grew hgc HT.out)
  replace HRR := Lib.hid (hgc.heap HRR.out)
  replace HRT := Lib.hid (hgc.heap HRT.out)
  replace HG := Lib.hid (HG.out.trans hgc)
  clear hgc
  have e0 := row_cellT HRT.out 0 _ rfl
  have e1 := row_cellT HRT.out 1 _ rfl
  have e2 := row_cellT HRT.out 2 _ rfl
  have e3 := row_cellT HRT.out 3 _ rfl
  have e4 := row_cellT HRT.out 4 _ rfl
  have e5 := row_cellT HRT.out 5 _ rfl
  cases b1
  · have HV : Hid (res = false) := by show _ = _; rw [← HRES.out]; unfold keyF; rw [HB1.out]; rfl
    go_wp2_with fail
    go_ret
    exact ⟨by rw [HV.out]; rfl, HG.out⟩
  go_wp2_with fail
  obtain ⟨ke, hke⟩ : ∃ q, keyE ts = q := ⟨_, rfl⟩
  have hh := kcheck_any ts u1
  rw [hke] at hh
  have HKE : Hid (keyE t.fs = ke) := by rw [← HK.out.2.2.2]; exact hke
  clear hke
  refine hh.mono ?_
  clear hh
  rintro r u2 ⟨rfl, e⟩
  rw [← e]
  clear e
  by_cases hk0 : ke = 0
  rotate_left
  · have hb : (ke == 0) = false := by simpa using hk0
    have HV : Hid (res = false) := by show _ = _; rw [← HRES.out]; unfold keyF; rw [HB1.out, HKE.out, decide_eq_false hk0]; rfl
    clear hk0
    go_wp2_with fail
    go_ret
    exact ⟨by rw [HV.out]; rfl, HG.out⟩
  subst hk0
  have HV : Hid (res = hasF d at_ (ends ts)) := by show _ = _; rw [← HRES.out]; unfold keyF; rw [HB1.out, HKE.out, ← HK.out.2.2.2]; rfl
  have hcs : ts.size ≤ 1000 := HSZ.out
  go_wp2_with fail
  skip
  refine (is_any d _ at_ (ends ts) _ HD.out (by unfold i64ok; omega) (by rw [ends_size]; have := HSZ.out; omega)).mono ?_
  rintro r u3 ⟨rfl, hgc⟩
  replace HD := Lib.hid (DocAt.grew HD.out hgc)
  replace HT := Lib.hid (NodeAt.grew hgc HT.out)
  replace HRR := Lib.hid (hgc.heap HRR.out)
  replace HRT := Lib.hid (hgc.heap HRT.out)
  replace HG := Lib.hid (HG.out.trans hgc)
  clear hgc
  clear e0 e1 e2 e3 e4 e5
  go_wp2_with fail
  go_ret
  exact ⟨by rw [HV.out]; rfl, HG.out⟩
set_option maxRecDepth 100000 in
set_option maxHeartbeats 4000000 in
theorem apart_any (d : List UInt8) (dv : Value) (pos par typ wid at_ : Int) (t : Tr) (tv : Value) (w : World) (hD : DocAt w dv d) (hn : NodeAt w t tv) (hp : 0 ≤ at_ ∧ at_ ≤ 1048576) (hw : isW wid = true) : Calls Try.prog 79 #[dv, .agg #[.int .i64 pos, .int .i64 par, .int .i64 typ, .int .i64 wid], .int .i64 at_, tv] w fun r w' => r = .returned (.bool (apartF d typ wid at_ t)) ∧ Grew w w' := by
  by_cases ht6 : typ = 6
  · subst ht6
    have HD := Lib.hid hD
    have HT := Lib.hid hn
    obtain ⟨da, dc, rfl, _⟩ := hD.form
    obtain ⟨tk, tn, tu, ts, ta4, tn4, tc4, ta5, tn5, tc5, rfl⟩ := hn.node6
    obtain ⟨ek, en, eu, es⟩ := kind_of hn
    have HK : Hid (tk = t.kind ∧ tn = t.fn ∧ tu = t.fu ∧ ts = t.fs) := ⟨ek, en, eu, es⟩
    clear hD hn ek en eu es
    have HG := Lib.hid (Grew.refl w)
    obtain ⟨res, hres⟩ : ∃ b, apartF d 6 wid at_ t = b := ⟨_, rfl⟩
    rw [hres]
    have HRES := Lib.hid hres
    clear hres
    go_enter Try.func79, Try.ntmps79
    go_upto_region 1 with fail
    obtain ⟨pr, hpr⟩ : ∃ N, w.heap.size = N := ⟨_, rfl⟩
    have hr1 := heap_alloc_new w (.cells #[.int .i64 pos, .int .i64 par, .int .i64 6, .int .i64 wid] 35)
    have hga := (Grew.refl w).alloc (.cells #[.int .i64 pos, .int .i64 par, .int .i64 6, .int .i64 wid] 35)
    have hz1 : (w.alloc (.cells #[.int .i64 pos, .int .i64 par, .int .i64 6, .int .i64 wid] 35)).heap.size = pr + 1 := by rw [World.size_alloc, hpr]
    generalize (w.alloc (.cells #[.int .i64 pos, .int .i64 par, .int .i64 6, .int .i64 wid] 35)) = x1 at *
    rw [hpr] at hr1
    try rw [hpr]
    have HRR := Lib.hid hr1
    clear hr1 hpr
    replace HD := Lib.hid (DocAt.grew HD.out hga)
    replace HT := Lib.hid (NodeAt.grew hga HT.out)
    replace HG := Lib.hid (HG.out.trans hga)
    clear hga
    have hr2 := heap_alloc_new x1 (.cells #[.int .i64 tk, .int .i64 tn, .int .u64 tu, .string ts, .slice ta4 tn4 tc4, .slice ta5 tn5 tc5] 27)
    have hga := (Grew.refl x1).alloc (.cells #[.int .i64 tk, .int .i64 tn, .int .u64 tu, .string ts, .slice ta4 tn4 tc4, .slice ta5 tn5 tc5] 27)
    generalize (x1.alloc (.cells #[.int .i64 tk, .int .i64 tn, .int .u64 tu, .string ts, .slice ta4 tn4 tc4, .slice ta5 tn5 tc5] 27)) = x2 at *
    rw [hz1] at hr2
    try rw [hz1]
    have HRT := Lib.hid hr2
    clear hr2 hz1
    replace HD := Lib.hid (DocAt.grew HD.out hga)
    replace HT := Lib.hid (NodeAt.grew hga HT.out)
    replace HRR := Lib.hid (hga.heap HRR.out)
    replace HG := Lib.hid (HG.out.trans hga)
    clear hga
    have c0 := row_cellT HRR.out 0 _ rfl
    have c1 := row_cellT HRR.out 1 _ rfl
    have c2 := row_cellT HRR.out 2 _ rfl
    have c3 := row_cellT HRR.out 3 _ rfl
    have e0 := row_cellT HRT.out 0 _ rfl
    have e1 := row_cellT HRT.out 1 _ rfl
    have e2 := row_cellT HRT.out 2 _ rfl
    have e3 := row_cellT HRT.out 3 _ rfl
    have e4 := row_cellT HRT.out 4 _ rfl
    have e5 := row_cellT HRT.out 5 _ rfl
    have ht : Int.tmod at_ wid = at_ % wid := Int.tmod_eq_emod_of_nonneg hp.1
    have hw1 : 1 ≤ wid ∧ wid ≤ 8 := by rcases isW_cases hw with rfl | rfl | rfl | rfl <;> omega
    have hwz : (wid == 0) = false := by rw [beq_eq_false_iff_ne]; omega
    have hm0 : 0 ≤ at_ % wid ∧ at_ % wid < 8 := ⟨Int.emod_nonneg _ (by omega), Int.lt_of_lt_of_le (Int.emod_lt_of_pos _ (by omega)) hw1.2⟩
    have hwm : IntKind.i64.wrap (at_ % wid) = at_ % wid := by rw [IntKind.wrap_i64]; omega
    obtain ⟨md, hmd⟩ : ∃ q, at_ % wid = q := ⟨_, rfl⟩
    rw [hmd] at ht hwm hm0
    have HMD := Lib.hid hmd
    clear hmd
    have HRS : Hid (res = (decide (tk = 8) && decide (md = 0) && numberF d at_ wid 8 9 t)) := by show _ = _; rw [← HRES.out]; unfold apartF; rw [if_pos rfl, ← HK.out.1, HMD.out]
    by_cases hk : tk = 8
    rotate_left
    · have hb : (tk == 8) = false := by simpa using hk
      have HV : Hid (res = false) := by show _ = _; rw [HRS.out, decide_eq_false hk]; rfl
      clear hk
      go_wp2_with fail
      go_ret
      exact ⟨by rw [HV.out]; rfl, HG.out⟩
    by_cases hm : md = 0
    rotate_left
    · have hb : (md == 0) = false := by simpa using hm
      have hb2 : (tk == 8) = true := by simpa using hk
      have HV : Hid (res = false) := by show _ = _; rw [HRS.out, decide_eq_false hm, Bool.and_false]; rfl
      clear hm hk
      go_wp2_with fail
      go_ret
      exact ⟨by rw [HV.out]; rfl, HG.out⟩
    have HV : Hid (res = numberF d at_ wid 8 9 t) := by show _ = _; rw [HRS.out, decide_eq_true hk, decide_eq_true hm]; rfl
    subst hm
    subst hk
    go_wp2_with fail
    refine (number_any d _ at_ wid 8 9 t _ _ HD.out (by unfold i64ok; omega) HT.out).mono ?_
    rintro r u2 ⟨rfl, hgc⟩
    replace HD := Lib.hid (DocAt.grew HD.out hgc)
    replace HT := Lib.hid (NodeAt.grew hgc HT.out)
    replace HRR := Lib.hid (hgc.heap HRR.out)
    replace HRT := Lib.hid (hgc.heap HRT.out)
    replace HG := Lib.hid (HG.out.trans hgc)
    clear hgc
    clear c0 c1 c2 c3
    clear e0 e1 e2 e3 e4 e5
    go_wp2_with fail
    go_ret
    exact ⟨by rw [HV.out]; rfl, HG.out⟩
  · have hb6 : (typ == 6) = false := by simpa using ht6
    have HT6 := Lib.hid ht6
    clear ht6
    have HD := Lib.hid hD
    have HT := Lib.hid hn
    obtain ⟨da, dc, rfl, _⟩ := hD.form
    obtain ⟨tk, tn, tu, ts, ta4, tn4, tc4, ta5, tn5, tc5, rfl⟩ := hn.node6
    obtain ⟨ek, en, eu, es⟩ := kind_of hn
    have HK : Hid (tk = t.kind ∧ tn = t.fn ∧ tu = t.fu ∧ ts = t.fs) := ⟨ek, en, eu, es⟩
    clear hD hn ek en eu es
    have HG := Lib.hid (Grew.refl w)
    obtain ⟨res, hres⟩ : ∃ b, apartF d typ wid at_ t = b := ⟨_, rfl⟩
    rw [hres]
    have HRES := Lib.hid hres
    clear hres
    go_enter Try.func79, Try.ntmps79
    go_upto_region 1 with fail
    obtain ⟨pr, hpr⟩ : ∃ N, w.heap.size = N := ⟨_, rfl⟩
    have hr1 := heap_alloc_new w (.cells #[.int .i64 pos, .int .i64 par, .int .i64 typ, .int .i64 wid] 35)
    have hga := (Grew.refl w).alloc (.cells #[.int .i64 pos, .int .i64 par, .int .i64 typ, .int .i64 wid] 35)
    have hz1 : (w.alloc (.cells #[.int .i64 pos, .int .i64 par, .int .i64 typ, .int .i64 wid] 35)).heap.size = pr + 1 := by rw [World.size_alloc, hpr]
    generalize (w.alloc (.cells #[.int .i64 pos, .int .i64 par, .int .i64 typ, .int .i64 wid] 35)) = x1 at *
    rw [hpr] at hr1
    try rw [hpr]
    have HRR := Lib.hid hr1
    clear hr1 hpr
    replace HD := Lib.hid (DocAt.grew HD.out hga)
    replace HT := Lib.hid (NodeAt.grew hga HT.out)
    replace HG := Lib.hid (HG.out.trans hga)
    clear hga
    have hr2 := heap_alloc_new x1 (.cells #[.int .i64 tk, .int .i64 tn, .int .u64 tu, .string ts, .slice ta4 tn4 tc4, .slice ta5 tn5 tc5] 27)
    have hga := (Grew.refl x1).alloc (.cells #[.int .i64 tk, .int .i64 tn, .int .u64 tu, .string ts, .slice ta4 tn4 tc4, .slice ta5 tn5 tc5] 27)
    generalize (x1.alloc (.cells #[.int .i64 tk, .int .i64 tn, .int .u64 tu, .string ts, .slice ta4 tn4 tc4, .slice ta5 tn5 tc5] 27)) = x2 at *
    rw [hz1] at hr2
    try rw [hz1]
    have HRT := Lib.hid hr2
    clear hr2 hz1
    replace HD := Lib.hid (DocAt.grew HD.out hga)
    replace HT := Lib.hid (NodeAt.grew hga HT.out)
    replace HRR := Lib.hid (hga.heap HRR.out)
    replace HG := Lib.hid (HG.out.trans hga)
    clear hga
    have c0 := row_cellT HRR.out 0 _ rfl
    have c1 := row_cellT HRR.out 1 _ rfl
    have c2 := row_cellT HRR.out 2 _ rfl
    have c3 := row_cellT HRR.out 3 _ rfl
    have e0 := row_cellT HRT.out 0 _ rfl
    have e1 := row_cellT HRT.out 1 _ rfl
    have e2 := row_cellT HRT.out 2 _ rfl
    have e3 := row_cellT HRT.out 3 _ rfl
    have e4 := row_cellT HRT.out 4 _ rfl
    have e5 := row_cellT HRT.out 5 _ rfl
    have ht : Int.tmod at_ wid = at_ % wid := Int.tmod_eq_emod_of_nonneg hp.1
    have hw1 : 1 ≤ wid ∧ wid ≤ 8 := by rcases isW_cases hw with rfl | rfl | rfl | rfl <;> omega
    have hwz : (wid == 0) = false := by rw [beq_eq_false_iff_ne]; omega
    have hm0 : 0 ≤ at_ % wid ∧ at_ % wid < 8 := ⟨Int.emod_nonneg _ (by omega), Int.lt_of_lt_of_le (Int.emod_lt_of_pos _ (by omega)) hw1.2⟩
    have hwm : IntKind.i64.wrap (at_ % wid) = at_ % wid := by rw [IntKind.wrap_i64]; omega
    obtain ⟨md, hmd⟩ : ∃ q, at_ % wid = q := ⟨_, rfl⟩
    rw [hmd] at ht hwm hm0
    have HMD := Lib.hid hmd
    clear hmd
    have HRS : Hid (res = (decide (tk = 9) && decide (md = 0) && numberF d at_ wid 8 9 t)) := by show _ = _; rw [← HRES.out]; unfold apartF; rw [if_neg HT6.out, ← HK.out.1, HMD.out]
    by_cases hk : tk = 9
    rotate_left
    · have hb : (tk == 9) = false := by simpa using hk
      have HV : Hid (res = false) := by show _ = _; rw [HRS.out, decide_eq_false hk]; rfl
      clear hk
      go_wp2_with fail
      go_ret
      exact ⟨by rw [HV.out]; rfl, HG.out⟩
    by_cases hm : md = 0
    rotate_left
    · have hb : (md == 0) = false := by simpa using hm
      have hb2 : (tk == 9) = true := by simpa using hk
      have HV : Hid (res = false) := by show _ = _; rw [HRS.out, decide_eq_false hm, Bool.and_false]; rfl
      clear hm hk
      go_wp2_with fail
      go_ret
      exact ⟨by rw [HV.out]; rfl, HG.out⟩
    have HV : Hid (res = numberF d at_ wid 8 9 t) := by show _ = _; rw [HRS.out, decide_eq_true hk, decide_eq_true hm]; rfl
    subst hm
    subst hk
    go_wp2_with fail
    refine (number_any d _ at_ wid 8 9 t _ _ HD.out (by unfold i64ok; omega) HT.out).mono ?_
    rintro r u2 ⟨rfl, hgc⟩
    replace HD := Lib.hid (DocAt.grew HD.out hgc)
    replace HT := Lib.hid (NodeAt.grew hgc HT.out)
    replace HRR := Lib.hid (hgc.heap HRR.out)
    replace HRT := Lib.hid (hgc.heap HRT.out)
    replace HG := Lib.hid (HG.out.trans hgc)
    clear hgc
    clear c0 c1 c2 c3
    clear e0 e1 e2 e3 e4 e5
    go_wp2_with fail
    go_ret
    exact ⟨by rw [HV.out]; rfl, HG.out⟩
end Go.Proofs.Ytlhliolknaopjaa

/-
  Plain laws, no program: a map with keys of the kind int that the call fills, whatever its values. Conditions: the key is not there yet.
-/
namespace Go.Proofs.Ytlhliolknaopjaa
open Go Go.RowKit
set_option linter.unusedVariables false
set_option linter.unusedSimpArgs false
section
variable {P : Program} {mt kt et : TypeId}
def entI (p : Int × Value) (j : Nat) : MapEntry := { key := .int .i64 p.1, val := p.2, born := j }
/-- The entries, in order. -/
def entsI : List (Int × Value) → Nat → List MapEntry
  | [], _ => []
  | p :: r, j => entI p j :: entsI r (j + 1)
def findI (k : Int) : List (Int × Value) → Nat → Option (Nat × Value)
  | [], _ => none
  | p :: r, j => if k = p.1 then some (j, p.2) else findI k r (j + 1)
theorem findNowI (k : Int) : ∀ (l : List (Int × Value)) (j i : Nat), Instr.findNow (.int .i64) (.int .i64 k) (entsI l j) i = some (findI k l i)
  | [], j, i => rfl
  | p :: r, j, i => by
    have ih := findNowI k r (j + 1) (i + 1)
    by_cases h : k = p.1
    · simp [entsI, Instr.findNow, Instr.sameNow, findI, h, entI]
    · have hb : (k == p.1) = false := by simpa using h
      simp [entsI, Instr.findNow, Instr.sameNow, findI, h, entI, hb, ih]
theorem entsI_append : ∀ (l : List (Int × Value)) (p : Int × Value) (j : Nat), entsI (l ++ [p]) j = entsI l j ++ [entI p (j + l.length)]
  | [], p, j => by simp [entsI]
  | q :: r, p, j => by simp [entsI, entsI_append r p (j + 1)]; congr 1; omega
/-- The map holds the entries. -/
def MapI (w : World) (r : Nat) (l : List (Int × Value)) : Prop := w.heap[r]? = some (.map (entsI l 0).toArray l.length)
theorem wpList_intPut {ops : Array Oper} {rest : List Oper} {o : Oper} {a : Act} {Q : Exit → Act → World → Prop} (w : World) (hmt : P.underlying mt = some (.map kt et)) (hkt : P.underlying kt = some (.int .i64)) (hg : o.guard = none) (m x v : Operand) (hop : o.op = Op.insert mt m x v) (r : Nat) (l : List (Int × Value))
    (hm : a.eval m = .map (some r)) (hb : MapI w r l) (k : Int) (hx : a.eval x = .int .i64 k) (t : Value) (hv : a.eval v = t) (hnew : findI k l 0 = none)
    (h : ∀ w' : World, MapI w' r (l ++ [(k, t)]) → (∀ B, B ≤ r → Below B w w') → w'.heap.size = w.heap.size → wpList P ops Q rest (a.put o.dst undef) w') : wpList P ops Q (o :: rest) a w := by
  have hf := MapKept.run_findKey (w := w) hkt (findNowI k l 0 0)
  rw [hnew] at hf
  have hc := MapKept.run_checkKey (w := w) (k := .int .i64 k) hkt (by simp [MapKept.IsKey]) false 9999
  have hrun : (Instr.mapUpdate mt (.map (some r)) (.int .i64 k) t).run P w = .ok () { w with heap := w.heap.setIfInBounds r (.map ((entsI l 0).toArray.push { key := .int .i64 k, val := t, born := l.length }) (l.length + 1)) } := by
    simp [Instr.mapUpdate, run_underlying hmt, MapKept.run_getObj_map hb, hc, hf, MapKept.run_setObj_map _ hb, Result.andThen]
  refine wpList_plain hg fun K hK => ?_
  unfold Oper.wp execOp
  simp only [hop, hm, hx, hv, Sem.run_bind, hrun, Result.andThen_ok]
  refine hK _ _ (h _ ?_ ?_ (by simp))
  · have := (MapKept.heap_set (o' := .map ((entsI l 0).toArray.push { key := .int .i64 k, val := t, born := l.length }) (l.length + 1)) hb).1
    unfold MapI
    rw [this, entsI_append]
    simp [entI]
  · intro B hB
    exact ⟨rfl, rfl, rfl, by simp, fun j hj => (MapKept.heap_set (o' := .map ((entsI l 0).toArray.push { key := .int .i64 k, val := t, born := l.length }) (l.length + 1)) hb).2 j (by omega)⟩
theorem lookI (w : World) (hmt : P.underlying mt = some (.map kt et)) (hkt : P.underlying kt = some (.int .i64)) {z : Value} (hz : (zeroValue et).run P w = .ok z w) (r : Nat) (l : List (Int × Value)) (hb : MapI w r l) (k : Int) :
    (Instr.lookup mt (.map (some r)) (.int .i64 k) false).run P w = .ok (match findI k l 0 with | some q => q.2 | none => z) w := by
  have hf := MapKept.run_findKey (w := w) hkt (findNowI k l 0 0)
  have hc := fun e => MapKept.run_checkKey (w := w) (k := .int .i64 k) hkt (by simp [MapKept.IsKey]) e 9999
  cases hq : findI k l 0 with
  | none => rw [hq] at hf; simp [Instr.lookup, run_underlying hmt, MapKept.run_getObj_map hb, hc, hf, Result.andThen, Sem.run_pure, Sem.run_bind, hz]
  | some q => rw [hq] at hf; simp [Instr.lookup, run_underlying hmt, MapKept.run_getObj_map hb, hc, hf, Result.andThen, Sem.run_pure, Sem.run_bind]
end
end Go.Proofs.Ytlhliolknaopjaa

/-
  Denote: text, and the tables. Conditions: the bytes, the tree lie in memory.
-/
namespace Go.Proofs.Ytlhliolknaopjaa
open Go Go.ChangeShapes Go.WideShapes Go.ChangeAt Go.RowKit Go.Joins Go.Deep
set_option linter.unusedVariables false
set_option linter.unusedSimpArgs false

set_option maxRecDepth 100000 in
set_option maxHeartbeats 4000000 in
theorem dtext_any (d : List UInt8) (dv : Value) (pos par typ wid at_ : Int) (t : Tr) (tv : Value) (w : World) (hD : DocAt w dv d) (hn : NodeAt w t tv) (hp : 0 ≤ at_ ∧ at_ ≤ 1048576) (hs : t.fs.size ≤ 1000) (hw : isW wid = true) : Calls Try.prog 78 #[dv, .agg #[.int .i64 pos, .int .i64 par, .int .i64 typ, .int .i64 wid], .int .i64 at_, tv] w fun r w' => r = .returned (.bool (textF d typ wid at_ t)) ∧ Grew w w' := by
  by_cases ht5 : typ = 5
  · subst ht5
    have HD := Lib.hid hD
    have HT := Lib.hid hn
    obtain ⟨da, dc, rfl, _⟩ := hD.form
    obtain ⟨tk, tn, tu, ts, ta4, tn4, tc4, ta5, tn5, tc5, rfl⟩ := hn.node6
    obtain ⟨ek, en, eu, es⟩ := kind_of hn
    have HK : Hid (tk = t.kind ∧ tn = t.fn ∧ tu = t.fu ∧ ts = t.fs) := ⟨ek, en, eu, es⟩
    clear hD hn ek en eu es
    have HG := Lib.hid (Grew.refl w)
    obtain ⟨res, hres⟩ : ∃ b, textF d 5 wid at_ t = b := ⟨_, rfl⟩
    rw [hres]
    have HRES := Lib.hid hres
    clear hres
    go_enter Try.func78, Try.ntmps78
    go_upto_region 1 with fail
    obtain ⟨pr, hpr⟩ : ∃ N, w.heap.size = N := ⟨_, rfl⟩
    have hr1 := heap_alloc_new w (.cells #[.int .i64 pos, .int .i64 par, .int .i64 5, .int .i64 wid] 35)
    have hga := (Grew.refl w).alloc (.cells #[.int .i64 pos, .int .i64 par, .int .i64 5, .int .i64 wid] 35)
    have hz1 : (w.alloc (.cells #[.int .i64 pos, .int .i64 par, .int .i64 5, .int .i64 wid] 35)).heap.size = pr + 1 := by rw [World.size_alloc, hpr]
    generalize (w.alloc (.cells #[.int .i64 pos, .int .i64 par, .int .i64 5, .int .i64 wid] 35)) = x1 at *
    rw [hpr] at hr1
    try rw [hpr]
    have HRR := Lib.hid hr1
    clear hr1 hpr
    replace HD := Lib.hid (DocAt.grew HD.out hga)
    replace HT := Lib.hid (NodeAt.grew hga HT.out)
    replace HG := Lib.hid (HG.out.trans hga)
    clear hga
    have hr2 := heap_alloc_new x1 (.cells #[.int .i64 tk, .int .i64 tn, .int .u64 tu, .string ts, .slice ta4 tn4 tc4, .slice ta5 tn5 tc5] 27)
    have hga := (Grew.refl x1).alloc (.cells #[.int .i64 tk, .int .i64 tn, .int .u64 tu, .string ts, .slice ta4 tn4 tc4, .slice ta5 tn5 tc5] 27)
    generalize (x1.alloc (.cells #[.int .i64 tk, .int .i64 tn, .int .u64 tu, .string ts, .slice ta4 tn4 tc4, .slice ta5 tn5 tc5] 27)) = x2 at *
    rw [hz1] at hr2
    try rw [hz1]
    have HRT := Lib.hid hr2
    clear hr2 hz1
    replace HD := Lib.hid (DocAt.grew HD.out hga)
    replace HT := Lib.hid (NodeAt.grew hga HT.out)
    replace HRR := Lib.hid (hga.heap HRR.out)
    replace HG := Lib.hid (HG.out.trans hga)
    clear hga
    have c0 := row_cellT HRR.out 0 _ rfl
    have c1 := row_cellT HRR.out 1 _ rfl
    have c2 := row_cellT HRR.out 2 _ rfl
    have c3 := row_cellT HRR.out 3 _ rfl
    have e0 := row_cellT HRT.out 0 _ rfl
    have e1 := row_cellT HRT.out 1 _ rfl
    have e2 := row_cellT HRT.out 2 _ rfl
    have e3 := row_cellT HRT.out 3 _ rfl
    have e4 := row_cellT HRT.out 4 _ rfl
    have e5 := row_cellT HRT.out 5 _ rfl
    have hcs : ts.size ≤ 1000 := by rw [HK.out.2.2.2]; exact hs
    clear hs
    have ht : Int.tmod at_ wid = at_ % wid := Int.tmod_eq_emod_of_nonneg hp.1
    have hw1 : 1 ≤ wid ∧ wid ≤ 8 := by rcases isW_cases hw with rfl | rfl | rfl | rfl <;> omega
    have hwz : (wid == 0) = false := by rw [beq_eq_false_iff_ne]; omega
    have hm0 : 0 ≤ at_ % wid ∧ at_ % wid < 8 := ⟨Int.emod_nonneg _ (by omega), Int.lt_of_lt_of_le (Int.emod_lt_of_pos _ (by omega)) hw1.2⟩
    have hwm : IntKind.i64.wrap (at_ % wid) = at_ % wid := by rw [IntKind.wrap_i64]; omega
    obtain ⟨md, hmd⟩ : ∃ q, at_ % wid = q := ⟨_, rfl⟩
    rw [hmd] at ht hwm hm0
    have HMD := Lib.hid hmd
    clear hmd
    have hws : IntKind.i64.wrap (at_ - wid) = at_ - wid := by rw [IntKind.wrap_i64]; omega
    have HRS : Hid (res = (bareF t 6 0 0 ts && (numF d (at_ - wid) wid).2 && decide (md = 0) && decide ((numF d (at_ - wid) wid).1 = ts.size) && hasF d at_ (ends ts))) := by show _ = _; rw [← HRES.out]; unfold textF; rw [if_pos rfl, if_pos rfl, ← HK.out.2.2.2, HMD.out]
    have hnum := dnum_any d (.slice da d.length dc) (at_ - wid) wid
    obtain ⟨nv, hnv⟩ : ∃ q, numF d (at_ - wid) wid = q := ⟨_, rfl⟩
    rw [hnv] at HRS hnum
    clear hnv
    obtain ⟨nv, ni⟩ := nv
    simp only at HRS hnum
    have HNUM := Lib.hid hnum
    clear hnum
    go_wp2_with fail
    refine (HNUM.out _ HD.out (by unfold i64ok; omega)).mono ?_
    rintro r u1 ⟨rfl, hgc⟩
    clear c0 c1 c2 c3
    clear e0 e1 e2 e3 e4 e5
    replace HD := Lib.hid (DocAt.grew HD.out hgc)
    replace HT := Lib.hid (NodeAt.grew hgc HT.out)
    replace HRR := Lib.hid (hgc.heap HRR.out)
    replace HRT := Lib.hid (hgc.heap HRT.out)
    replace HG := Lib.hid (HG.out.trans hgc)
    clear hgc
    have e0 := row_cellT HRT.out 0 _ rfl
    have e1 := row_cellT HRT.out 1 _ rfl
    have e2 := row_cellT HRT.out 2 _ rfl
    have e3 := row_cellT HRT.out 3 _ rfl
    have e4 := row_cellT HRT.out 4 _ rfl
    have e5 := row_cellT HRT.out 5 _ rfl
    have c0 := row_cellT HRR.out 0 _ rfl
    have c1 := row_cellT HRR.out 1 _ rfl
    have c2 := row_cellT HRR.out 2 _ rfl
    have c3 := row_cellT HRR.out 3 _ rfl
    go_wp2_with fail
    obtain ⟨b1, hb1⟩ : ∃ b, bareF t 6 0 0 ts = b := ⟨_, rfl⟩
    have hh := bare_any t _ 6 0 0 ts _ HT.out
    rw [hb1] at hh HRS
    clear hb1
    refine hh.mono ?_
    clear hh
    rintro r u2 ⟨rfl, hgc⟩
    clear c0 c1 c2 c3
    clear e0 e1 e2 e3 e4 e5
    replace HD := Lib.hid (DocAt.grew HD.out hgc)
    replace HT := Lib.hid (NodeAt.grew hgc HT.out)
    replace HRR := Lib.hid (hgc.heap HRR.out)
    replace HRT := Lib.hid (hgc.heap HRT.out)
    replace HG := Lib.hid (HG.out.trans hgc)
    clear hgc
    have e0 := row_cellT HRT.out 0 _ rfl
    have e1 := row_cellT HRT.out 1 _ rfl
    have e2 := row_cellT HRT.out 2 _ rfl
    have e3 := row_cellT HRT.out 3 _ rfl
    have e4 := row_cellT HRT.out 4 _ rfl
    have e5 := row_cellT HRT.out 5 _ rfl
    have c0 := row_cellT HRR.out 0 _ rfl
    have c1 := row_cellT HRR.out 1 _ rfl
    have c2 := row_cellT HRR.out 2 _ rfl
    have c3 := row_cellT HRR.out 3 _ rfl
    cases b1
    · have HV : Hid (res = false) := by show _ = _; rw [HRS.out]; rfl
      go_wp2_with fail
      go_ret
      exact ⟨by rw [HV.out]; rfl, HG.out⟩
    cases ni
    · have HV : Hid (res = false) := by show _ = _; rw [HRS.out]; rfl
      go_wp2_with fail
      go_ret
      exact ⟨by rw [HV.out]; rfl, HG.out⟩
    by_cases hm : md = 0
    rotate_left
    · have hb : (md == 0) = false := by simpa using hm
      have HV : Hid (res = false) := by show _ = _; rw [HRS.out, decide_eq_false hm]; rfl
      clear hm
      go_wp2_with fail
      go_ret
      exact ⟨by rw [HV.out]; rfl, HG.out⟩
    subst hm
    by_cases hn : nv = ts.size
    rotate_left
    · have hb : (nv == (ts.size : Int)) = false := by simpa using hn
      have HV : Hid (res = false) := by show _ = _; rw [HRS.out, decide_eq_false hn]; rfl
      clear hn
      go_wp2_with fail
      go_ret
      exact ⟨by rw [HV.out]; rfl, HG.out⟩
    have HV : Hid (res = hasF d at_ (ends ts)) := by show _ = _; rw [HRS.out, decide_eq_true hn]; rfl
    subst hn
    go_wp2_with fail
    refine (is_any d _ at_ (ends ts) _ HD.out (by unfold i64ok; omega) (by rw [ends_size]; omega)).mono ?_
    rintro r u3 ⟨rfl, hgc⟩
    replace HD := Lib.hid (DocAt.grew HD.out hgc)
    replace HT := Lib.hid (NodeAt.grew hgc HT.out)
    replace HRR := Lib.hid (hgc.heap HRR.out)
    replace HRT := Lib.hid (hgc.heap HRT.out)
    replace HG := Lib.hid (HG.out.trans hgc)
    clear hgc
    clear c0 c1 c2 c3
    clear e0 e1 e2 e3 e4 e5
    go_wp2_with fail
    go_ret
    exact ⟨by rw [HV.out]; rfl, HG.out⟩
  · have hb5 : (typ == 5) = false := by simpa using ht5
    have HT5 := Lib.hid ht5
    clear ht5
    have HD := Lib.hid hD
    have HT := Lib.hid hn
    obtain ⟨da, dc, rfl, _⟩ := hD.form
    obtain ⟨tk, tn, tu, ts, ta4, tn4, tc4, ta5, tn5, tc5, rfl⟩ := hn.node6
    obtain ⟨ek, en, eu, es⟩ := kind_of hn
    have HK : Hid (tk = t.kind ∧ tn = t.fn ∧ tu = t.fu ∧ ts = t.fs) := ⟨ek, en, eu, es⟩
    clear hD hn ek en eu es
    have HG := Lib.hid (Grew.refl w)
    obtain ⟨res, hres⟩ : ∃ b, textF d typ wid at_ t = b := ⟨_, rfl⟩
    rw [hres]
    have HRES := Lib.hid hres
    clear hres
    go_enter Try.func78, Try.ntmps78
    go_upto_region 1 with fail
    obtain ⟨pr, hpr⟩ : ∃ N, w.heap.size = N := ⟨_, rfl⟩
    have hr1 := heap_alloc_new w (.cells #[.int .i64 pos, .int .i64 par, .int .i64 typ, .int .i64 wid] 35)
    have hga := (Grew.refl w).alloc (.cells #[.int .i64 pos, .int .i64 par, .int .i64 typ, .int .i64 wid] 35)
    have hz1 : (w.alloc (.cells #[.int .i64 pos, .int .i64 par, .int .i64 typ, .int .i64 wid] 35)).heap.size = pr + 1 := by rw [World.size_alloc, hpr]
    generalize (w.alloc (.cells #[.int .i64 pos, .int .i64 par, .int .i64 typ, .int .i64 wid] 35)) = x1 at *
    rw [hpr] at hr1
    try rw [hpr]
    have HRR := Lib.hid hr1
    clear hr1 hpr
    replace HD := Lib.hid (DocAt.grew HD.out hga)
    replace HT := Lib.hid (NodeAt.grew hga HT.out)
    replace HG := Lib.hid (HG.out.trans hga)
    clear hga
    have hr2 := heap_alloc_new x1 (.cells #[.int .i64 tk, .int .i64 tn, .int .u64 tu, .string ts, .slice ta4 tn4 tc4, .slice ta5 tn5 tc5] 27)
    have hga := (Grew.refl x1).alloc (.cells #[.int .i64 tk, .int .i64 tn, .int .u64 tu, .string ts, .slice ta4 tn4 tc4, .slice ta5 tn5 tc5] 27)
    generalize (x1.alloc (.cells #[.int .i64 tk, .int .i64 tn, .int .u64 tu, .string ts, .slice ta4 tn4 tc4, .slice ta5 tn5 tc5] 27)) = x2 at *
    rw [hz1] at hr2
    try rw [hz1]
    have HRT := Lib.hid hr2
    clear hr2 hz1
    replace HD := Lib.hid (DocAt.grew HD.out hga)
    replace HT := Lib.hid (NodeAt.grew hga HT.out)
    replace HRR := Lib.hid (hga.heap HRR.out)
    replace HG := Lib.hid (HG.out.trans hga)
    clear hga
    have c0 := row_cellT HRR.out 0 _ rfl
    have c1 := row_cellT HRR.out 1 _ rfl
    have c2 := row_cellT HRR.out 2 _ rfl
    have c3 := row_cellT HRR.out 3 _ rfl
    have e0 := row_cellT HRT.out 0 _ rfl
    have e1 := row_cellT HRT.out 1 _ rfl
    have e2 := row_cellT HRT.out 2 _ rfl
    have e3 := row_cellT HRT.out 3 _ rfl
    have e4 := row_cellT HRT.out 4 _ rfl
    have e5 := row_cellT HRT.out 5 _ rfl
    have hcs : ts.size ≤ 1000 := by rw [HK.out.2.2.2]; exact hs
    clear hs
    have ht : Int.tmod at_ wid = at_ % wid := Int.tmod_eq_emod_of_nonneg hp.1
    have hw1 : 1 ≤ wid ∧ wid ≤ 8 := by rcases isW_cases hw with rfl | rfl | rfl | rfl <;> omega
    have hwz : (wid == 0) = false := by rw [beq_eq_false_iff_ne]; omega
    have hm0 : 0 ≤ at_ % wid ∧ at_ % wid < 8 := ⟨Int.emod_nonneg _ (by omega), Int.lt_of_lt_of_le (Int.emod_lt_of_pos _ (by omega)) hw1.2⟩
    have hwm : IntKind.i64.wrap (at_ % wid) = at_ % wid := by rw [IntKind.wrap_i64]; omega
    obtain ⟨md, hmd⟩ : ∃ q, at_ % wid = q := ⟨_, rfl⟩
    rw [hmd] at ht hwm hm0
    have HMD := Lib.hid hmd
    clear hmd
    have hws : IntKind.i64.wrap (at_ - wid) = at_ - wid := by rw [IntKind.wrap_i64]; omega
    have HRS : Hid (res = (bareF t 7 0 0 ts && (numF d (at_ - wid) wid).2 && decide (md = 0) && decide ((numF d (at_ - wid) wid).1 = ts.size) && hasF d at_ ts)) := by show _ = _; rw [← HRES.out]; unfold textF; rw [if_neg HT5.out, if_neg HT5.out, ← HK.out.2.2.2, HMD.out]
    have hnum := dnum_any d (.slice da d.length dc) (at_ - wid) wid
    obtain ⟨nv, hnv⟩ : ∃ q, numF d (at_ - wid) wid = q := ⟨_, rfl⟩
    rw [hnv] at HRS hnum
    clear hnv
    obtain ⟨nv, ni⟩ := nv
    simp only at HRS hnum
    have HNUM := Lib.hid hnum
    clear hnum
    go_wp2_with fail
    refine (HNUM.out _ HD.out (by unfold i64ok; omega)).mono ?_
    rintro r u1 ⟨rfl, hgc⟩
    clear c0 c1 c2 c3
    clear e0 e1 e2 e3 e4 e5
    replace HD := Lib.hid (DocAt.grew HD.out hgc)
    replace HT := Lib.hid (NodeAt.grew hgc HT.out)
    replace HRR := Lib.hid (hgc.heap HRR.out)
    replace HRT := Lib.hid (hgc.heap HRT.out)
    replace HG := Lib.hid (HG.out.trans hgc)
    clear hgc
    have e0 := row_cellT HRT.out 0 _ rfl
    have e1 := row_cellT HRT.out 1 _ rfl
    have e2 := row_cellT HRT.out 2 _ rfl
    have e3 := row_cellT HRT.out 3 _ rfl
    have e4 := row_cellT HRT.out 4 _ rfl
    have e5 := row_cellT HRT.out 5 _ rfl
    have c0 := row_cellT HRR.out 0 _ rfl
    have c1 := row_cellT HRR.out 1 _ rfl
    have c2 := row_cellT HRR.out 2 _ rfl
    have c3 := row_cellT HRR.out 3 _ rfl
    go_wp2_with fail
    obtain ⟨b1, hb1⟩ : ∃ b, bareF t 7 0 0 ts = b := ⟨_, rfl⟩
    have hh := bare_any t _ 7 0 0 ts _ HT.out
    rw [hb1] at hh HRS
    clear hb1
    refine hh.mono ?_
    clear hh
    rintro r u2 ⟨rfl, hgc⟩
    clear c0 c1 c2 c3
    clear e0 e1 e2 e3 e4 e5
    replace HD := Lib.hid (DocAt.grew HD.out hgc)
    replace HT := Lib.hid (NodeAt.grew hgc HT.out)
    replace HRR := Lib.hid (hgc.heap HRR.out)
    replace HRT := Lib.hid (hgc.heap HRT.out)
    replace HG := Lib.hid (HG.out.trans hgc)
    clear hgc
    have e0 := row_cellT HRT.out 0 _ rfl
    have e1 := row_cellT HRT.out 1 _ rfl
    have e2 := row_cellT HRT.out 2 _ rfl
    have e3 := row_cellT HRT.out 3 _ rfl
    have e4 := row_cellT HRT.out 4 _ rfl
    have e5 := row_cellT HRT.out 5 _ rfl
    have c0 := row_cellT HRR.out 0 _ rfl
    have c1 := row_cellT HRR.out 1 _ rfl
    have c2 := row_cellT HRR.out 2 _ rfl
    have c3 := row_cellT HRR.out 3 _ rfl
    cases b1
    · have HV : Hid (res = false) := by show _ = _; rw [HRS.out]; rfl
      go_wp2_with fail
      go_ret
      exact ⟨by rw [HV.out]; rfl, HG.out⟩
    cases ni
    · have HV : Hid (res = false) := by show _ = _; rw [HRS.out]; rfl
      go_wp2_with fail
      go_ret
      exact ⟨by rw [HV.out]; rfl, HG.out⟩
    by_cases hm : md = 0
    rotate_left
    · have hb : (md == 0) = false := by simpa using hm
      have HV : Hid (res = false) := by show _ = _; rw [HRS.out, decide_eq_false hm]; rfl
      clear hm
      go_wp2_with fail
      go_ret
      exact ⟨by rw [HV.out]; rfl, HG.out⟩
    subst hm
    by_cases hn : nv = ts.size
    rotate_left
    · have hb : (nv == (ts.size : Int)) = false := by simpa using hn
      have HV : Hid (res = false) := by show _ = _; rw [HRS.out, decide_eq_false hn]; rfl
      clear hn
      go_wp2_with fail
      go_ret
      exact ⟨by rw [HV.out]; rfl, HG.out⟩
    have HV : Hid (res = hasF d at_ ts) := by show _ = _; rw [HRS.out, decide_eq_true hn]; rfl
    subst hn
    go_wp2_with fail
    refine (is_any d _ at_ ts _ HD.out (by unfold i64ok; omega) (by omega)).mono ?_
    rintro r u3 ⟨rfl, hgc⟩
    replace HD := Lib.hid (DocAt.grew HD.out hgc)
    replace HT := Lib.hid (NodeAt.grew hgc HT.out)
    replace HRR := Lib.hid (hgc.heap HRR.out)
    replace HRT := Lib.hid (hgc.heap HRT.out)
    replace HG := Lib.hid (HG.out.trans hgc)
    clear hgc
    clear c0 c1 c2 c3
    clear e0 e1 e2 e3 e4 e5
    go_wp2_with fail
    go_ret
    exact ⟨by rw [HV.out]; rfl, HG.out⟩
/-- The types of vectors with a length, and their kinds. -/
def listsL : List (Int × Value) := [(10, .int .i64 10), (11, .int .i64 11), (12, .int .i64 12), (14, .int .i64 13), (36, .int .i64 14), (9, .int .i64 17)]
set_option maxRecDepth 100000 in
set_option maxHeartbeats 4000000 in
theorem lists_any (w : World) : Calls Try.prog 101 #[] w fun r w' => ∃ b, r = .returned (.map (some b)) ∧ w.heap.size ≤ b ∧ MapI w' b listsL ∧ Grew w w' := by
  go_enter Try.func101, Try.ntmps101
  have hmk := @run_makeMap Try.prog
  have HB : Hid (MapI (w.alloc (.map #[] 0)) w.heap.size []) := (MapKept.heap_alloc w _).1
  have HG : Hid (Grew w (w.alloc (.map #[] 0))) := (Grew.refl w).alloc _
  go_wp2_with (refine wpList_intPut _ Try.underlying111 Try.underlying3 rfl _ _ _ rfl w.heap.size _ rfl HB.out _ rfl _ rfl (by rfl) ?_; intro w' hb' hbel _; replace HB := Lib.hid hb'; replace HG := Lib.hid (Below.trans HG.out (hbel w.heap.size (Nat.le_refl _))); clear hb' hbel)
  go_ret
  exact ⟨_, rfl, Nat.le_refl _, HB.out, HG.out⟩
def fF (k : Nat) : Value := .func (.func k) #[] #[]
/-- The methods by type. -/
def looksL : List (Int × Value) := [(0, fF 73), (1, fF 74), (2, fF 75), (26, fF 76), (4, fF 77), (5, fF 78), (25, fF 78), (6, fF 79), (7, fF 79)]
set_option maxRecDepth 100000 in
set_option maxHeartbeats 4000000 in
theorem looks_any (w : World) : Calls Try.prog 46 #[] w fun r w' => ∃ b, r = .returned (.map (some b)) ∧ w.heap.size ≤ b ∧ MapI w' b looksL ∧ Grew w w' := by
  go_enter Try.func46, Try.ntmps46
  have hmk := @run_makeMap Try.prog
  have HB : Hid (MapI (w.alloc (.map #[] 0)) w.heap.size []) := (MapKept.heap_alloc w _).1
  have HG : Hid (Grew w (w.alloc (.map #[] 0))) := (Grew.refl w).alloc _
  go_wp2_with (refine wpList_intPut _ Try.underlying68 Try.underlying3 rfl _ _ _ rfl w.heap.size _ rfl HB.out _ rfl _ rfl (by rfl) ?_; intro w' hb' hbel _; replace HB := Lib.hid hb'; replace HG := Lib.hid (Below.trans HG.out (hbel w.heap.size (Nat.le_refl _))); clear hb' hbel)
  go_ret
  exact ⟨_, rfl, Nat.le_refl _, HB.out, HG.out⟩
/-- A vector type's kind and number of elements. -/
def shapeF (t : Int) : Int × Int := if t = 10 then (10, 0) else if t = 11 then (11, 0) else if t = 12 then (12, 0) else if t = 14 then (13, 0) else if t = 36 then (14, 0) else if t = 9 then (17, 0) else if (Ft.elemF t).1 = 1 then (15, (Ft.elemF t).2.1) else (16, (Ft.elemF t).2.1)
def aheadF (t : Int) : Int := if t = 9 then 3 else if t = 4 ∨ t = 6 ∨ t = 7 ∨ 0 < (Ft.elemF t).2.1 then 0 else 1
set_option maxRecDepth 100000 in
set_option maxHeartbeats 4000000 in
theorem ahead_any (t : Int) (w : World) : Calls Try.prog 50 #[.int .i64 t] w fun r w' => r = .returned (.int .i64 (aheadF t)) ∧ Grew w w' := by
  have hel := Ft.elem_any t w
  unfold aheadF
  generalize Ft.elemF t = el at *
  obtain ⟨e1, e2, e3⟩ := el
  simp only at hel ⊢
  obtain ⟨res, hres⟩ : ∃ b, (if t = 9 then (3 : Int) else if t = 4 ∨ t = 6 ∨ t = 7 ∨ 0 < e2 then 0 else 1) = b := ⟨_, rfl⟩
  rw [hres]
  have HEL := Lib.hid hel
  have HRES := Lib.hid hres
  clear hel hres
  by_cases h9 : t = 9
  · have HV : Hid (res = 3) := by show _ = _; rw [← HRES.out, if_pos h9]
    subst h9
    go_enter Try.func50, Try.ntmps50
    go_wp2_with fail
    refine HEL.out.mono ?_
    rintro r w1 ⟨rfl, hg⟩
    have HG := Lib.hid hg
    clear hg
    go_wp2_with fail
    go_ret
    exact ⟨by rw [HV.out]; rfl, HG.out⟩
  have b9 : (t == 9) = false := by simpa using h9
  by_cases h4 : t = 4
  · have HV : Hid (res = 0) := by show _ = _; rw [← HRES.out, if_neg h9, if_pos (by omega)]
    clear h9 b9
    subst h4
    go_enter Try.func50, Try.ntmps50
    go_wp2_with fail
    refine HEL.out.mono ?_
    rintro r w1 ⟨rfl, hg⟩
    have HG := Lib.hid hg
    clear hg
    go_wp2_with fail
    go_ret
    exact ⟨by rw [HV.out]; rfl, HG.out⟩
  have b4 : (t == 4) = false := by simpa using h4
  by_cases h6 : t = 6
  · have HV : Hid (res = 0) := by show _ = _; rw [← HRES.out, if_neg h9, if_pos (by omega)]
    clear h9 b9 h4 b4
    subst h6
    go_enter Try.func50, Try.ntmps50
    go_wp2_with fail
    refine HEL.out.mono ?_
    rintro r w1 ⟨rfl, hg⟩
    have HG := Lib.hid hg
    clear hg
    go_wp2_with fail
    go_ret
    exact ⟨by rw [HV.out]; rfl, HG.out⟩
  have b6 : (t == 6) = false := by simpa using h6
  by_cases h7 : t = 7
  · have HV : Hid (res = 0) := by show _ = _; rw [← HRES.out, if_neg h9, if_pos (by omega)]
    clear h9 b9 h4 b4 h6 b6
    subst h7
    go_enter Try.func50, Try.ntmps50
    go_wp2_with fail
    refine HEL.out.mono ?_
    rintro r w1 ⟨rfl, hg⟩
    have HG := Lib.hid hg
    clear hg
    go_wp2_with fail
    go_ret
    exact ⟨by rw [HV.out]; rfl, HG.out⟩
  have b7 : (t == 7) = false := by simpa using h7
  by_cases h0 : 0 < e2
  · have HV : Hid (res = 0) := by show _ = _; rw [← HRES.out, if_neg h9, if_pos (by omega)]
    clear h9 h4 h6 h7
    go_enter Try.func50, Try.ntmps50
    go_wp2_with fail
    refine HEL.out.mono ?_
    rintro r w1 ⟨rfl, hg⟩
    have HG := Lib.hid hg
    clear hg
    go_wp2_with fail
    go_ret
    exact ⟨by rw [HV.out]; rfl, HG.out⟩
  have HV : Hid (res = 1) := by show _ = _; rw [← HRES.out, if_neg h9, if_neg (by omega)]
  clear h9 h4 h6 h7
  go_enter Try.func50, Try.ntmps50
  go_wp2_with fail
  refine HEL.out.mono ?_
  rintro r w1 ⟨rfl, hg⟩
  have HG := Lib.hid hg
  clear hg
  go_wp2_with fail
  go_ret
  exact ⟨by rw [HV.out]; rfl, HG.out⟩
end Go.Proofs.Ytlhliolknaopjaa

/-
  Denote: a vector type's shape. Conditions: none.
-/
namespace Go.Proofs.Ytlhliolknaopjaa
open Go Go.ChangeShapes Go.WideShapes Go.ChangeAt Go.RowKit Go.Joins Go.Deep
set_option linter.unusedVariables false
set_option linter.unusedSimpArgs false

section
variable {P : Program} {mt kt et : TypeId}
theorem lookI2 (w : World) (hmt : P.underlying mt = some (.map kt et)) (hkt : P.underlying kt = some (.int .i64)) {z : Value} (hz : (zeroValue et).run P w = .ok z w) (r : Nat) (l : List (Int × Value)) (hb : MapI w r l) (k : Int) :
    (Instr.lookup mt (.map (some r)) (.int .i64 k) true).run P w = .ok (match findI k l 0 with | some q => .tuple #[q.2, .bool true] | none => .tuple #[z, .bool false]) w := by
  have hf := MapKept.run_findKey (w := w) hkt (findNowI k l 0 0)
  have hc := fun e => MapKept.run_checkKey (w := w) (k := .int .i64 k) hkt (by simp [MapKept.IsKey]) e 9999
  cases hq : findI k l 0 with
  | none => rw [hq] at hf; simp [Instr.lookup, run_underlying hmt, MapKept.run_getObj_map hb, hc, hf, Result.andThen, Sem.run_pure, Sem.run_bind, hz]
  | some q => rw [hq] at hf; simp [Instr.lookup, run_underlying hmt, MapKept.run_getObj_map hb, hc, hf, Result.andThen, Sem.run_pure, Sem.run_bind]
end
theorem find_cases (t : Int) : (∃ j kd, findI t listsL 0 = some (j, .int .i64 kd) ∧ shapeF t = (kd, 0)) ∨ (findI t listsL 0 = none ∧ shapeF t = if (Ft.elemF t).1 = 1 then (15, (Ft.elemF t).2.1) else (16, (Ft.elemF t).2.1)) := by
  unfold shapeF
  by_cases h1 : t = 10
  · subst h1; exact .inl ⟨_, _, rfl, rfl⟩
  by_cases h2 : t = 11
  · subst h2; exact .inl ⟨_, _, rfl, rfl⟩
  by_cases h3 : t = 12
  · subst h3; exact .inl ⟨_, _, rfl, rfl⟩
  by_cases h4 : t = 14
  · subst h4; exact .inl ⟨_, _, rfl, rfl⟩
  by_cases h5 : t = 36
  · subst h5; exact .inl ⟨_, _, rfl, rfl⟩
  by_cases h6 : t = 9
  · subst h6; exact .inl ⟨_, _, rfl, rfl⟩
  refine .inr ⟨?_, ?_⟩
  · simp only [listsL, findI]
    rw [if_neg h1, if_neg h2, if_neg h3, if_neg h4, if_neg h5, if_neg h6]
  · rw [if_neg h1, if_neg h2, if_neg h3, if_neg h4, if_neg h5, if_neg h6]
set_option maxRecDepth 100000 in
set_option maxHeartbeats 4000000 in
theorem shape_any (t : Int) (w : World) : Calls Try.prog 80 #[.int .i64 t] w fun r w' => r = .returned (.tuple #[.int .i64 (shapeF t).1, .int .i64 (shapeF t).2]) ∧ Grew w w' := by
  have hz : ∀ w, (zeroValue 3).run Try.prog w = .ok (.int .i64 0) w := fun w => by kernel_rfl
  have HEL := Lib.hid (Ft.elem_any t)
  rcases find_cases t with ⟨j, kd, hf, hs⟩ | ⟨hf, hs⟩
  · have HF := Lib.hid hf
    have HS := Lib.hid hs
    clear hs hf
    go_enter Try.func80, Try.ntmps80
    go_wp2_with fail
    refine (lists_any w).mono ?_
    rintro r w1 ⟨b, rfl, _, hm, hg⟩
    have hlk := lookI2 w1 Try.underlying111 Try.underlying3 (hz w1) b listsL hm t
    rw [HF.out] at hlk
    simp only at hlk
    have HG := Lib.hid hg
    clear hg hm
    go_wp2_with fail
    go_ret2
    exact ⟨by rw [HS.out]; rfl, HG.out⟩
  · generalize Ft.elemF t = el at *
    obtain ⟨e1, e2, e3⟩ := el
    simp only at HEL hs
    have HS := Lib.hid hs
    have HF := Lib.hid hf
    clear hs hf
    go_enter Try.func80, Try.ntmps80
    go_wp2_with fail
    refine (lists_any w).mono ?_
    rintro r w1 ⟨b, rfl, _, hm, hg⟩
    have hlk := lookI2 w1 Try.underlying111 Try.underlying3 (hz w1) b listsL hm t
    rw [HF.out] at hlk
    simp only at hlk
    have HG := Lib.hid hg
    clear hg hm
    go_wp2_with fail
    refine (HEL.out w1).mono ?_
    rintro r w2 ⟨rfl, hg2⟩
    have HG2 := Lib.hid (HG.out.trans hg2)
    clear hg2
    by_cases h1 : e1 = 1
    · have hb : (e1 == 1) = true := by simpa using h1
      have HV := Lib.hid h1
      clear h1
      go_wp2_with fail
      go_ret2
      exact ⟨by rw [HS.out, if_pos HV.out]; rfl, HG2.out⟩
    · have hb : (e1 == 1) = false := by simpa using h1
      have HV := Lib.hid h1
      clear h1
      go_wp2_with fail
      go_ret2
      exact ⟨by rw [HS.out, if_neg HV.out]; rfl, HG2.out⟩
end Go.Proofs.Ytlhliolknaopjaa

/-
  Denote, plain: the relation.
-/
namespace Go.Proofs.Ytlhliolknaopjaa
open Go Go.ChangeShapes Go.WideShapes Go.ChangeAt Go.RowKit Go.Joins Go.Deep
set_option linter.unusedVariables false
set_option linter.unusedSimpArgs false

/-- What a method of the table looks at. -/
def lookF (d : List UInt8) (typ pos par wid at_ : Int) (t : Tr) : Bool :=
  if typ = 0 then nullF d pos par t else if typ = 1 then intF d pos par t else if typ = 2 then uintF d pos par t else if typ = 26 then boolF d pos par t
  else if typ = 4 then keyF d at_ t else if typ = 5 ∨ typ = 25 then textF d typ wid at_ t else apartF d typ wid at_ t
def nearT (typ : Int) : Bool := decide (typ = 0) || decide (typ = 1) || decide (typ = 2) || decide (typ = 26)
def farT (typ : Int) : Bool := decide (typ = 4) || decide (typ = 5) || decide (typ = 25) || decide (typ = 6) || decide (typ = 7)
/-- The offset is one, and leads behind the limit. -/
def farB (d : List UInt8) (typ pos par wid lim : Int) : Bool :=
  (numF d pos par).2 && decide ((numF d pos par).1 ≤ pos) && decide (pos - (numF d pos par).1 - aheadF typ * wid < lim)
def incB : List ByteArray → Bool
  | [] => true
  | [_] => true
  | a :: b :: r => ltS a b && incB (b :: r)
def keySays (d : List UInt8) (pos w lim : Int) (k : ByteArray) : Bool := farB d 4 pos w w lim && decide (keyE k = 0) && hasF d (pos - (numF d pos w).1) (ends k)
def nameKids (d : List UInt8) (w at_ : Int) : Nat → List ByteArray → Bool
  | _, [] => true
  | i, k :: r => keySays d (at_ + i * w) w (at_ - w) k && nameKids d w at_ (i + 1) r
def namesF (d : List UInt8) (w at_ : Int) (l : List ByteArray) : Bool :=
  decide (at_ % w = 0) && decide (at_ + l.length * w ≤ d.length) && ((numF d (at_ - w) w).2 && decide ((numF d (at_ - w) w).1 = l.length)) && nameKids d w at_ 0 l
def keysF (d : List UInt8) (first w : Int) (l : List ByteArray) : Bool :=
  (numF d first w).2 && (numF d (first + w) w).2 && isW (numF d (first + w) w).1 && decide ((numF d first w).1 ≤ first) && decide (first - (numF d first w).1 - (numF d (first + w) w).1 < first) && incB l &&
    namesF d (numF d (first + w) w).1 (first - (numF d first w).1) l
def taggedB (kd : Int) : Bool := decide (kd = 10) || decide (kd = 17)
/-- All but the children. -/
def frontF (d : List UInt8) (typ w at_ : Int) : Tr → Bool
  | .mk k n u s keys l =>
    decide (k = (shapeF typ).1) && decide (n = 0) && decide (u = 0) && decide (s = EMB) && (decide ((shapeF typ).1 = 17) || decide (keys.length = 0)) && decide (at_ % w = 0) &&
      decide (at_ + l.length * w + (if taggedB (shapeF typ).1 = true then (l.length : Int) else 0) ≤ d.length) &&
      (if (shapeF typ).2 = 0 then (numF d (at_ - w) w).2 && decide ((numF d (at_ - w) w).1 = l.length) else decide ((l.length : Int) = (shapeF typ).2)) &&
      (if (shapeF typ).1 = 17 then decide (0 ≤ at_ - 3 * w) && decide (keys.length = l.length) && keysF d (at_ - 3 * w) w keys else true)
def firstF (typ w at_ : Int) : Int := if (shapeF typ).1 = 17 then at_ - 3 * w else if (shapeF typ).2 = 0 then at_ - w else at_
/-- The type, the width and the error of an element. -/
def elemOf (d : List UInt8) (typ w at_ n : Int) (i : Nat) : Int × Int × Int :=
  if taggedB (shapeF typ).1 = true then Ft.unpackF ((d[(at_ + n * w + i).toNat]?).getD 0).toNat else ((Ft.elemF typ).1, w, 0)
mutual
/-- Whether a reference represents a tree. -/
def saysF (d : List UInt8) (typ pos par wid lim : Int) : Tr → Bool
  | .mk k n u s keys l =>
    if (isW par && isW wid && Ft.legalB typ) = false then false
    else if Ft.inlineB typ = true then lookF d typ pos par wid 0 (.mk k n u s keys l)
    else if farB d typ pos par wid lim = false then false
    else if farT typ = true then lookF d typ pos par wid (pos - (numF d pos par).1) (.mk k n u s keys l)
    else frontF d typ wid (pos - (numF d pos par).1) (.mk k n u s keys l) && kidsF d typ wid (pos - (numF d pos par).1) l.length 0 l
def kidsF (d : List UInt8) (typ w at_ n : Int) : Nat → List Tr → Bool
  | _, [] => true
  | i, x :: r => (decide ((elemOf d typ w at_ n i).2.2 = 0) && saysF d (elemOf d typ w at_ n i).1 (at_ + i * w) w (elemOf d typ w at_ n i).2.1 (firstF typ w at_) x) && kidsF d typ w at_ n (i + 1) r
end
def listF (d : List UInt8) (typ w at_ : Int) (t : Tr) : Bool := frontF d typ w at_ t && kidsF d typ w at_ t.kids.length 0 t.kids
theorem says_eq (d : List UInt8) (typ pos par wid lim : Int) (t : Tr) : saysF d typ pos par wid lim t =
    if (isW par && isW wid && Ft.legalB typ) = false then false else if Ft.inlineB typ = true then lookF d typ pos par wid 0 t else if farB d typ pos par wid lim = false then false
    else if farT typ = true then lookF d typ pos par wid (pos - (numF d pos par).1) t else listF d typ wid (pos - (numF d pos par).1) t := by
  cases t; simp only [saysF, listF, Tr.kids]
/-- Trees that are small enough for the walk. -/
def okS : Tr → Prop | .mk k n u s keys l => s.size ≤ 1000 ∧ (∀ x ∈ keys, x.size ≤ 1000) ∧ keys.length ≤ 4096 ∧ l.length ≤ 4096 ∧ ∀ x, x ∈ l → okS x
decreasing_by
  rename_i h
  have := List.sizeOf_lt_of_mem h
  simp only [Tr.mk.sizeOf_spec]
  omega
theorem kind_range (t : Int) (h : (Ft.kindOf t).1 ≠ 0) : 0 ≤ t ∧ t ≤ 36 := Ft.legal_range (t := t) (by unfold Ft.legalB; exact decide_eq_true h)
theorem inline_near (t : Int) : Ft.inlineB t = nearT t := by
  by_cases h : 0 ≤ t ∧ t ≤ 36
  · obtain ⟨k, rfl⟩ := Int.eq_ofNat_of_zero_le h.1
    have hk : k < 37 := by omega
    have : ∀ k : Fin 37, Ft.inlineB ((k : Nat) : Int) = nearT ((k : Nat) : Int) := by decide +kernel
    exact this ⟨k, hk⟩
  · have h1 : nearT t = false := by unfold nearT; rw [decide_eq_false (by omega), decide_eq_false (by omega), decide_eq_false (by omega), decide_eq_false (by omega)]; rfl
    rw [h1]
    unfold Ft.inlineB
    refine decide_eq_false fun h2 => h (kind_range t (by omega))
theorem legal_far (t : Int) (h : Ft.legalB t = true) (hn : nearT t = false) (hf : farT t = false) : findI t looksL 0 = none := by
  have h2 : t ≠ 0 ∧ t ≠ 1 ∧ t ≠ 2 ∧ t ≠ 26 := by
    unfold nearT at hn
    simp only [Bool.or_eq_false_iff, decide_eq_false_iff_not] at hn
    exact ⟨hn.1.1.1, hn.1.1.2, hn.1.2, hn.2⟩
  have h3 : t ≠ 4 ∧ t ≠ 5 ∧ t ≠ 25 ∧ t ≠ 6 ∧ t ≠ 7 := by
    unfold farT at hf
    simp only [Bool.or_eq_false_iff, decide_eq_false_iff_not] at hf
    exact ⟨hf.1.1.1.1, hf.1.1.1.2, hf.1.1.2, hf.1.2, hf.2⟩
  simp only [looksL, findI]
  rw [if_neg h2.1, if_neg h2.2.1, if_neg h2.2.2.1, if_neg h2.2.2.2, if_neg h3.1, if_neg h3.2.1, if_neg h3.2.2.1, if_neg h3.2.2.2.1, if_neg h3.2.2.2.2]
theorem ahead_range (t : Int) : 0 ≤ aheadF t ∧ aheadF t ≤ 3 := by
  unfold aheadF
  repeat' split
  all_goals omega
/-- The method of a type, by its contract. -/
theorem look_call (d : List UInt8) (typ : Int) (h : nearT typ = true ∨ farT typ = true) : ∃ j f, findI typ looksL 0 = some (j, fF f) ∧ (f = 73 ∨ f = 74 ∨ f = 75 ∨ f = 76 ∨ f = 77 ∨ f = 78 ∨ f = 79) ∧ ∀ (dv : Value) (pos par wid at_ : Int) (t : Tr) (tv : Value) (w : World), DocAt w dv d → NodeAt w t tv → i64ok pos → 0 ≤ at_ ∧ at_ ≤ 1048576 → t.fs.size ≤ 1000 → isW wid = true →
    Calls Try.prog f #[dv, .agg #[.int .i64 pos, .int .i64 par, .int .i64 typ, .int .i64 wid], .int .i64 at_, tv] w fun r w' => r = .returned (.bool (lookF d typ pos par wid at_ t)) ∧ Grew w w' := by
  have h9 : typ = 0 ∨ typ = 1 ∨ typ = 2 ∨ typ = 26 ∨ typ = 4 ∨ typ = 5 ∨ typ = 25 ∨ typ = 6 ∨ typ = 7 := by
    unfold nearT farT at h
    simp only [Bool.or_eq_true, decide_eq_true_eq] at h
    omega
  rcases h9 with rfl | rfl | rfl | rfl | rfl | rfl | rfl | rfl | rfl
  · exact ⟨_, _, rfl, (by simp), fun dv pos par wid at_ t tv w hD hn hp ha hs hw => null_any d dv pos par 0 wid at_ t tv w hD hn hp⟩
  · exact ⟨_, _, rfl, (by simp), fun dv pos par wid at_ t tv w hD hn hp ha hs hw => int_any d dv pos par 1 wid at_ t tv w hD hn hp⟩
  · exact ⟨_, _, rfl, (by simp), fun dv pos par wid at_ t tv w hD hn hp ha hs hw => uint_any d dv pos par 2 wid at_ t tv w hD hn hp⟩
  · exact ⟨_, _, rfl, (by simp), fun dv pos par wid at_ t tv w hD hn hp ha hs hw => bool_any d dv pos par 26 wid at_ t tv w hD hn hp⟩
  · exact ⟨_, _, rfl, (by simp), fun dv pos par wid at_ t tv w hD hn hp ha hs hw => key_any d dv pos par 4 wid at_ t tv w hD hn ha hs⟩
  · exact ⟨_, _, rfl, (by simp), fun dv pos par wid at_ t tv w hD hn hp ha hs hw => dtext_any d dv pos par 5 wid at_ t tv w hD hn ha hs hw⟩
  · exact ⟨_, _, rfl, (by simp), fun dv pos par wid at_ t tv w hD hn hp ha hs hw => dtext_any d dv pos par 25 wid at_ t tv w hD hn ha hs hw⟩
  · exact ⟨_, _, rfl, (by simp), fun dv pos par wid at_ t tv w hD hn hp ha hs hw => apart_any d dv pos par 6 wid at_ t tv w hD hn ha hw⟩
  · exact ⟨_, _, rfl, (by simp), fun dv pos par wid at_ t tv w hD hn hp ha hs hw => apart_any d dv pos par 7 wid at_ t tv w hD hn ha hw⟩
end Go.Proofs.Ytlhliolknaopjaa

/-
  Denote: the small functions of the laws (bytes, few, num, uns, text, list, table). Conditions: the arguments can be read.
-/
namespace Go.Proofs.Ytlhliolknaopjaa
open Go Go.ChangeShapes Go.WideShapes Go.ChangeAt Go.RowKit Go.Joins Go.Deep
set_option linter.unusedVariables false
set_option linter.unusedSimpArgs false

theorem okS_eq' (k n u : Int) (s : ByteArray) (keys : List ByteArray) (l : List Tr) : okS (.mk k n u s keys l) ↔ s.size ≤ 1000 ∧ (∀ x ∈ keys, x.size ≤ 1000) ∧ keys.length ≤ 4096 ∧ l.length ≤ 4096 ∧ ∀ x, x ∈ l → okS x := by rw [okS]
theorem cut_okS (long : Nat) (hlong : long ≤ 1000) : ∀ (m : Nat) (t : Tr) (left : Nat), t.size ≤ m → left ≤ 4096 → okS (cutTr long left t).1 := by
  intro m
  induction m with
  | zero => intro t left h; have := t.size_pos; omega
  | succ m ih =>
    intro t left h hl
    obtain ⟨k, n, u, s, keys, l⟩ := t
    have hkids : ∀ (l : List Tr) (left : Nat), (∀ x ∈ l, x.size ≤ m) → left ≤ 4096 → (cutTrs long left l).1.length ≤ left ∧ ∀ x ∈ (cutTrs long left l).1, okS x := by
      intro l
      induction l with
      | nil => intro left _ _; simp [cutTrs]
      | cons t r ihl =>
        intro left hx hl
        rw [cutTrs]
        by_cases h0 : left = 0
        · rw [if_pos h0]; simp
        · rw [if_neg h0]
          have hz := cutTr_size long t (left - 1)
          have hp := (cutTr long (left - 1) t).1.size_pos
          have h1 := ih t (left - 1) (hx t (by simp)) (by omega)
          have h2 := ihl (cutTr long (left - 1) t).2 (fun x hm => hx x (by simp [hm])) (by omega)
          refine ⟨by simp only [List.length_cons]; have := h2.1; omega, fun x hm => ?_⟩
          rcases List.mem_cons.1 hm with rfl | hm
          · exact h1
          · exact h2.2 x hm
    have hsz : ∀ x ∈ l, x.size ≤ m := by
      intro x hx
      have := size_mem hx
      simp only [Tr.size] at h
      omega
    have hk := hkids l left hsz hl
    rw [cutTr, okS_eq']
    refine ⟨by rw [shortS_size]; omega, fun x hx => ?_, by unfold textsS; rw [List.length_map, List.length_take]; omega, by omega, hk.2⟩
    obtain ⟨y, _, rfl⟩ := List.mem_map.1 hx
    rw [shortS_size]; omega
/-- The law's arguments, cut. -/
def cutF (t : Tr) : Tr := (cutTr 60 (80 - 1) t).1
theorem cutF_ok (t : Tr) : okS (cutF t) := cut_okS 60 (by omega) t.size t _ (Nat.le_refl _) (by omega)
def cutB (d : List UInt8) : List UInt8 := d.take 2000
theorem BytesAt.take {w : World} {a : Option Addr} {c : Nat} {d : List UInt8} (h : BytesAt w (.slice a d.length c) d) (k : Nat) (hk : k ≤ d.length) : BytesAt w (.slice a k c) (d.take k) := by
  obtain ⟨a', c', e, h1, h2, h3⟩ := h
  cases e
  refine ⟨a, c, by rw [List.length_take, Nat.min_eq_left hk], by rw [List.length_take]; omega, h2, fun i b hb => ?_⟩
  rw [List.getElem?_take] at hb
  split at hb
  · exact h3 i b hb
  · cases hb
set_option maxRecDepth 100000 in
theorem bytes27_any (d : List UInt8) (v : Value) (w : World) (h : BytesAt w v d) (hl : d.length ≤ 9223372036854775807) : Calls Try.prog 8 #[v] w fun r w' => ∃ v', r = .returned v' ∧ w'.ownsRow w.heap.size 5 1 v' (cutB d).length (Lib.byteCells (cutB d)) ∧ Grew w w' := by
  have HX := Lib.hid h
  obtain ⟨a, c, rfl, hc, hnil, _⟩ := h
  obtain ⟨m, hm, hmi⟩ : ∃ m : Nat, m = min d.length 2000 ∧ (min (d.length : Int) 2000) = (m : Int) := ⟨_, rfl, by omega⟩
  have hmc : m ≤ c := by omega
  have hmn : m ≤ d.length := by omega
  have hb := HX.out.take m hmn
  have hd : d.take m = cutB d := by
    unfold cutB
    by_cases hh : d.length ≤ 2000
    · rw [List.take_of_length_le hh, List.take_of_length_le (by omega)]
    · rw [show m = 2000 by omega]
  rw [hd] at hb
  have HB := Lib.hid hb
  have HM := Lib.hid hmi
  go_enter Try.func8, Try.ntmps8
  clear hb hd hmi
  go_wp2_with fail
  rw [show (min (d.length : Int) 2000).toNat = m by rw [HM.out]; rfl]
  refine (copy_any _ _ (cutB d) HB.out (by unfold cutB; rw [List.length_take]; omega)).mono ?_
  rintro r w3 ⟨v', rfl, hown, hg⟩
  have HO := Lib.hid (And.intro hown hg)
  clear hown hg
  go_wp2_with fail
  go_ret
  exact ⟨_, rfl, HO.out⟩
set_option maxRecDepth 100000 in
theorem few27_any (t : Tr) (v : Value) (w : World) (hn : NodeAt w t v) : Calls Try.prog 9 #[v] w fun r w' => ∃ v', r = .returned v' ∧ NodeAt w' (cutF t) v' ∧ Grew w w' := by
  have HN := Lib.hid hn
  obtain ⟨k, n, u, s, a4, n4, c4, a5, n5, c5, rfl⟩ := hn.node6
  clear hn
  go_enter Try.func9, Try.ntmps9
  go_wp2_with fail
  have hg1 := (Grew.refl w).alloc (.cells #[.int .i64 k, .int .i64 n, .int .u64 u, .string s, .slice a4 n4 c4, .slice a5 n5 c5] 27)
  have hs1 : (w.alloc (.cells #[.int .i64 k, .int .i64 n, .int .u64 u, .string s, .slice a4 n4 c4, .slice a5 n5 c5] 27)).heap.size = w.heap.size + 1 := World.size_alloc _ _
  generalize (w.alloc (.cells #[.int .i64 k, .int .i64 n, .int .u64 u, .string s, .slice a4 n4 c4, .slice a5 n5 c5] 27)) = w1 at *
  have hb2 := heap_alloc_new w1 (.cells #[.int .i64 0, .int .i64 0, .int .u64 0, .string ⟨#[]⟩, .slice none 0 0, .slice none 0 0] 27)
  have hg2 := (Grew.refl w1).alloc (.cells #[.int .i64 0, .int .i64 0, .int .u64 0, .string ⟨#[]⟩, .slice none 0 0, .slice none 0 0] 27)
  generalize (w1.alloc (.cells #[.int .i64 0, .int .i64 0, .int .u64 0, .string ⟨#[]⟩, .slice none 0 0, .slice none 0 0] 27)) = w2 at *
  rw [hs1] at hb2
  have HG := Lib.hid (hg1.trans hg2)
  refine (cut_node_any 80 60 (by omega) (by omega) (by omega) t _ w2 (HN.out.grew HG.out)).mono ?_
  rintro r w3 ⟨v1, rfl, ho1, hg3⟩
  have hb3 := hg3.heap hb2
  have HO := Lib.hid ho1
  obtain ⟨rk, rn, ru, rs, ra4, rn4, rc4, ra5, rn5, rc5, rfl⟩ := ho1.node6
  have HFIN : Hid (NodeAt (store6 w3 (w.heap.size + 1) (.int .i64 rk) (.int .i64 rn) (.int .u64 ru) (.string rs) (.slice ra4 rn4 rc4) (.slice ra5 rn5 rc5)) (cutF t) (.agg #[.int .i64 rk, .int .i64 rn, .int .u64 ru, .string rs, .slice ra4 rn4 rc4, .slice ra5 rn5 rc5]) ∧ Grew w (store6 w3 (w.heap.size + 1) (.int .i64 rk) (.int .i64 rn) (.int .u64 ru) (.string rs) (.slice ra4 rn4 rc4) (.slice ra5 rn5 rc5))) := by
    have hT : Moved (fun k => k = w.heap.size + 1) w3 (store6 w3 (w.heap.size + 1) (.int .i64 rk) (.int .i64 rn) (.int .u64 ru) (.string rs) (.slice ra4 rn4 rc4) (.slice ra5 rn5 rc5)) := moved_store6 w3 (w.heap.size + 1) _ _ _ _ _ _
    have h2 := (Array.getElem?_eq_some_iff.1 hb2).1
    have h3 := hg3.size
    generalize (store6 w3 (w.heap.size + 1) (.int .i64 rk) (.int .i64 rn) (.int .u64 ru) (.string rs) (.slice ra4 rn4 rc4) (.slice ra5 rn5 rc5)) = W at *
    refine ⟨(HO.out.kept hT (fun g hg e => ?_)).node, Moved.fresh (HG.out.trans hg3) hT (fun g e => by omega)⟩
    have := hg.1; omega
  have z0 := row_cellT hb3 0 _ rfl
  have z1 := row_cellT hb3 1 _ rfl
  have z2 := row_cellT hb3 2 _ rfl
  have z3 := row_cellT hb3 3 _ rfl
  have z4 := row_cellT hb3 4 _ rfl
  have z5 := row_cellT hb3 5 _ rfl
  have f0 := row_frozen hb3 0
  have f1 := row_frozen hb3 1
  have f2 := row_frozen hb3 2
  have f3 := row_frozen hb3 3
  have f4 := row_frozen hb3 4
  have f5 := row_frozen hb3 5
  clear hg1 hs1 hb2 hg2 ho1 hg3 hb3
  go_wp2_with fail
  refine bodyPost_ret (v := .agg #[.int .i64 rk, .int .i64 rn, .int .u64 ru, .string rs, .slice ra4 rn4 rc4, .slice ra5 rn5 rc5]) (by simp [results, Try.results9, go_sem, z0, z1, z2, z3, z4, z5]) rfl ?_
  exact ⟨_, rfl, HFIN.out⟩
set_option maxRecDepth 100000 in
theorem num27_any (n : Int) (w : World) : Calls Try.prog 28 #[.int .i64 n] w fun r w' => r = .returned (.agg #[.int .i64 3, .int .i64 n, .int .u64 0, .string ⟨#[]⟩, .slice none 0 0, .slice none 0 0]) ∧ Grew w w' := by
  go_enter Try.func28, Try.ntmps28
  go_wp2_with fail
  have hb := heap_alloc_new w (.cells #[.int .i64 3, .int .i64 n, .int .u64 0, .string ⟨#[]⟩, .slice none 0 0, .slice none 0 0] 27)
  have hg := (Grew.refl w).alloc (.cells #[.int .i64 3, .int .i64 n, .int .u64 0, .string ⟨#[]⟩, .slice none 0 0, .slice none 0 0] 27)
  have z0 := row_cellT hb 0 _ rfl
  have z1 := row_cellT hb 1 _ rfl
  have z2 := row_cellT hb 2 _ rfl
  have z3 := row_cellT hb 3 _ rfl
  have z4 := row_cellT hb 4 _ rfl
  have z5 := row_cellT hb 5 _ rfl
  refine bodyPost_ret (v := .agg #[.int .i64 3, .int .i64 n, .int .u64 0, .string ⟨#[]⟩, .slice none 0 0, .slice none 0 0]) (by simp [results, Try.results28, go_sem, z0, z1, z2, z3, z4, z5]) rfl ?_
  exact ⟨rfl, hg⟩
set_option maxRecDepth 100000 in
theorem uns27_any (n : Int) (w : World) : Calls Try.prog 29 #[.int .u64 n] w fun r w' => r = .returned (.agg #[.int .i64 4, .int .i64 0, .int .u64 n, .string ⟨#[]⟩, .slice none 0 0, .slice none 0 0]) ∧ Grew w w' := by
  go_enter Try.func29, Try.ntmps29
  go_wp2_with fail
  have hb := heap_alloc_new w (.cells #[.int .i64 4, .int .i64 0, .int .u64 n, .string ⟨#[]⟩, .slice none 0 0, .slice none 0 0] 27)
  have hg := (Grew.refl w).alloc (.cells #[.int .i64 4, .int .i64 0, .int .u64 n, .string ⟨#[]⟩, .slice none 0 0, .slice none 0 0] 27)
  have z0 := row_cellT hb 0 _ rfl
  have z1 := row_cellT hb 1 _ rfl
  have z2 := row_cellT hb 2 _ rfl
  have z3 := row_cellT hb 3 _ rfl
  have z4 := row_cellT hb 4 _ rfl
  have z5 := row_cellT hb 5 _ rfl
  refine bodyPost_ret (v := .agg #[.int .i64 4, .int .i64 0, .int .u64 n, .string ⟨#[]⟩, .slice none 0 0, .slice none 0 0]) (by simp [results, Try.results29, go_sem, z0, z1, z2, z3, z4, z5]) rfl ?_
  exact ⟨rfl, hg⟩
set_option maxRecDepth 100000 in
theorem text27_any (s : ByteArray) (w : World) : Calls Try.prog 30 #[.string s] w fun r w' => r = .returned (.agg #[.int .i64 6, .int .i64 0, .int .u64 0, .string s, .slice none 0 0, .slice none 0 0]) ∧ Grew w w' := by
  go_enter Try.func30, Try.ntmps30
  go_wp2_with fail
  have hb := heap_alloc_new w (.cells #[.int .i64 6, .int .i64 0, .int .u64 0, .string s, .slice none 0 0, .slice none 0 0] 27)
  have hg := (Grew.refl w).alloc (.cells #[.int .i64 6, .int .i64 0, .int .u64 0, .string s, .slice none 0 0, .slice none 0 0] 27)
  have z0 := row_cellT hb 0 _ rfl
  have z1 := row_cellT hb 1 _ rfl
  have z2 := row_cellT hb 2 _ rfl
  have z3 := row_cellT hb 3 _ rfl
  have z4 := row_cellT hb 4 _ rfl
  have z5 := row_cellT hb 5 _ rfl
  refine bodyPost_ret (v := .agg #[.int .i64 6, .int .i64 0, .int .u64 0, .string s, .slice none 0 0, .slice none 0 0]) (by simp [results, Try.results30, go_sem, z0, z1, z2, z3, z4, z5]) rfl ?_
  exact ⟨rfl, hg⟩
set_option maxRecDepth 100000 in
theorem list27_any (k : Int) (a5 : Option Addr) (n5 c5 : Nat) (w : World) : Calls Try.prog 31 #[.int .i64 k, .slice a5 n5 c5] w fun r w' => r = .returned (.agg #[.int .i64 k, .int .i64 0, .int .u64 0, .string ⟨#[]⟩, .slice none 0 0, .slice a5 n5 c5]) ∧ Grew w w' := by
  go_enter Try.func31, Try.ntmps31
  go_wp2_with fail
  have hb := heap_alloc_new w (.cells #[.int .i64 k, .int .i64 0, .int .u64 0, .string ⟨#[]⟩, .slice none 0 0, .slice a5 n5 c5] 27)
  have hg := (Grew.refl w).alloc (.cells #[.int .i64 k, .int .i64 0, .int .u64 0, .string ⟨#[]⟩, .slice none 0 0, .slice a5 n5 c5] 27)
  have z0 := row_cellT hb 0 _ rfl
  have z1 := row_cellT hb 1 _ rfl
  have z2 := row_cellT hb 2 _ rfl
  have z3 := row_cellT hb 3 _ rfl
  have z4 := row_cellT hb 4 _ rfl
  have z5 := row_cellT hb 5 _ rfl
  refine bodyPost_ret (v := .agg #[.int .i64 k, .int .i64 0, .int .u64 0, .string ⟨#[]⟩, .slice none 0 0, .slice a5 n5 c5]) (by simp [results, Try.results31, go_sem, z0, z1, z2, z3, z4, z5]) rfl ?_
  exact ⟨rfl, hg⟩
set_option maxRecDepth 100000 in
theorem table27_any (a4 : Option Addr) (n4 c4 : Nat) (a5 : Option Addr) (n5 c5 : Nat) (w : World) : Calls Try.prog 32 #[.slice a4 n4 c4, .slice a5 n5 c5] w fun r w' => r = .returned (.agg #[.int .i64 17, .int .i64 0, .int .u64 0, .string ⟨#[]⟩, .slice a4 n4 c4, .slice a5 n5 c5]) ∧ Grew w w' := by
  go_enter Try.func32, Try.ntmps32
  go_wp2_with fail
  have hb := heap_alloc_new w (.cells #[.int .i64 17, .int .i64 0, .int .u64 0, .string ⟨#[]⟩, .slice a4 n4 c4, .slice a5 n5 c5] 27)
  have hg := (Grew.refl w).alloc (.cells #[.int .i64 17, .int .i64 0, .int .u64 0, .string ⟨#[]⟩, .slice a4 n4 c4, .slice a5 n5 c5] 27)
  have z0 := row_cellT hb 0 _ rfl
  have z1 := row_cellT hb 1 _ rfl
  have z2 := row_cellT hb 2 _ rfl
  have z3 := row_cellT hb 3 _ rfl
  have z4 := row_cellT hb 4 _ rfl
  have z5 := row_cellT hb 5 _ rfl
  refine bodyPost_ret (v := .agg #[.int .i64 17, .int .i64 0, .int .u64 0, .string ⟨#[]⟩, .slice a4 n4 c4, .slice a5 n5 c5]) (by simp [results, Try.results32, go_sem, z0, z1, z2, z3, z4, z5]) rfl ?_
  exact ⟨rfl, hg⟩
end Go.Proofs.Ytlhliolknaopjaa

/-
  Plain lemma, no program: a region that leaves its order open, but for a tail whose operations stand in the text's order and wait for all: facts for the head, the walk for the tail.
-/
namespace Go.Proofs.Ytlhliolknaopjaa
set_option linter.unusedSimpArgs false
set_option linter.unusedVariables false
open Go Go.RowKit
section
variable {P : Program} {ops : Array Oper}
def headA (ops : Array Oper) (n : Nat) : Array Bool := ((List.range ops.size).map fun j => decide (j < n)).toArray
theorem headA_eq {n : Nat} {listed : Array Bool} (hsz : listed.size = ops.size) (hn : n ≤ ops.size) (h1 : ∀ j, j < n → listed.getD j false = true) (h2 : ∀ j, n ≤ j → j < ops.size → listed.getD j true = false) : listed = headA ops n := by
  apply Array.ext
  · simp [headA, hsz]
  · intro j ha hb
    have hj : j < ops.size := by omega
    simp only [headA, List.getElem_toArray, List.getElem_map, List.getElem_range]
    rcases Nat.lt_or_ge j n with h | h
    · have := h1 j h
      simp [ha] at this
      simp [this, h]
    · have := h2 j h hj
      simp [ha] at this
      simp [this]; omega
theorem wpAny_seq_more {Q' : Exit → Act → World → Prop} : ∀ (l : List Oper) (m k : Nat) (listed : Array Bool) (a : Act) (w : World), (∀ j, l[j]? = ops[k + j]?) →
    Region.seqB .any ops l.length k listed = true → wpList P ops Q' l a w → wpAny P .any ops Q' (l.length + m) listed a w
  | [], m, k, listed, a, w, _, hB, h => by
    have h0 : Region.ready .any ops listed = [] := by simpa [Region.seqB] using hB
    cases m with
    | zero => exact ⟨h0, h⟩
    | succ m => simp only [List.length_nil, Nat.zero_add]; exact ⟨fun _ => h, fun i hi => by rw [h0] at hi; cases hi⟩
  | o :: l, m, k, listed, a, w, hl, hB, h => by
    have h0 : ops[k]? = some o := by simpa using (hl 0).symm
    simp only [List.length_cons, Region.seqB, Bool.and_eq_true, decide_eq_true_eq] at hB
    rw [show (o :: l).length + m = (l.length + m) + 1 by simp only [List.length_cons]; omega]
    refine ⟨fun h1 => (by rw [hB.1] at h1; cases h1), fun i hi => ?_⟩
    rw [hB.1] at hi
    have hik : i = k := by simpa using hi
    subst hik
    have hw : wpOp P ops Q' i (wpList P ops Q' l) a w := by unfold wpOp; simp only [h0]; exact h
    exact wpOp_mono (fun a' w' h' => wpAny_seq_more l m (i + 1) _ a' w' (fun j => by have := hl (j + 1); simpa [Nat.add_assoc, Nat.add_comm 1 j] using this) hB.2 h') hw
end
end Go.Proofs.Ytlhliolknaopjaa
