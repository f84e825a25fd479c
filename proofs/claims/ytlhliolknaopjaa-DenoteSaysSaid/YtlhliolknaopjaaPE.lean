/-
  Texts of the proof, part 5 of 9.
-/
import Derived.Test.YtlhliolknaopjaaPD
import Derived.Test.YtlhliolknaopjaaPB
import Derived.Deep.CutBlock
import Derived.Deep.DeepCutAuto

/-
  Denote: list at an untyped vector, where says and keys are given. Conditions: the bytes, the tree lie in memory; the tree is small.
-/
namespace Go.Proofs.Ytlhliolknaopjaa
open Go Go.ChangeShapes Go.WideShapes Go.ChangeAt Go.RowKit Go.Joins Go.Deep
set_option linter.unusedVariables false
set_option linter.unusedSimpArgs false

set_option maxRecDepth 100000 in
set_option maxHeartbeats 4000000 in
theorem list_walkB (d : List UInt8) (typ k n u : Int) (s : ByteArray) (keys : List ByteArray) (l : List Tr) (hl : l.length ≤ 4096) (hkl4 : keys.length ≤ 4096) (hkids : ∀ x ∈ l, ∀ typ', ((shapeF typ).1 = 10 ∨ (shapeF typ).1 = 17 ∨ typ' = (Ft.elemF typ).1) → SaysOn d typ' x) (hkeys : (shapeF typ).1 = 17 → KeysOn d keys) (hcase : (shapeF typ).1 = 10) : ListOn d typ (.mk k n u s keys l) := by
  intro dv pos par wid at_ tv w hD hn ha hw
  simp only [NodeAt] at hn
  obtain ⟨hb, kv, lv, vs, rfl, hks, hrl, hkd⟩ := hn
  have hkl := hkd.length
  have HD := Lib.hid hD
  have HKS := Lib.hid hks
  have HB := Lib.hid hb
  have hdl := hD.2.1
  obtain ⟨da, dc, rfl, hdc⟩ := hD.form
  obtain ⟨a4, c4, rfl, hk1, hk2, hk3⟩ := hks
  have HRL := Lib.hid hrl
  obtain ⟨a5, c5, rfl, hl1, hl2, hl3, hl4⟩ := hrl
  rw [hkl] at HRL hl1 ⊢
  have HKD := Lib.hid hkd
  have HHK := Lib.hid hkids
  have HKY := Lib.hid hkeys
  have HW := Lib.hid hw
  have hlc : (l.length : Int) ≤ c5 := by omega
  clear hD hb hk1 hk2 hk3 hl2 hl3 hl4 hkd hkl hkids hkeys hl1
  have hw1 : 1 ≤ wid ∧ wid ≤ 8 := by rcases isW_cases hw with rfl | rfl | rfl | rfl <;> omega
  have hnw : 0 ≤ (l.length : Int) * wid ∧ (l.length : Int) * wid ≤ 32768 := by
    refine ⟨Int.mul_nonneg (by omega) (by omega), ?_⟩
    have h1 := Int.mul_le_mul (show (l.length : Int) ≤ 4096 by omega) hw1.2 (by omega) (by omega)
    omega
  have HSR := Lib.hid (shape_range typ)
  obtain ⟨q, hq⟩ : ∃ q, shapeF typ = q := ⟨_, rfl⟩
  rw [hq] at HSR
  have hshp := shape_any typ
  rw [hq] at hshp
  have HSP := Lib.hid hshp
  clear hshp
  obtain ⟨kd, many⟩ := q
  simp only at HSR HSP
  obtain ⟨res, hres⟩ : ∃ b, listF d typ wid at_ (.mk k n u s keys l) = b := ⟨_, rfl⟩
  rw [hres]
  have HRES := Lib.hid hres
  clear hres
  rw [list_form hq] at HRES
  have h10 : kd = 10 := by rw [hq] at hcase; exact hcase
  clear hcase
  have HQ := Lib.hid hq
  clear hq
  have HG := Lib.hid (Grew.refl w)
  go_enter Try.func47, Try.ntmps47
  go_upto_region 1 with fail
  obtain ⟨pr, hpr⟩ : ∃ N, w.heap.size = N := ⟨_, rfl⟩
  have HPR := Lib.hid hpr
  have hr1 := heap_alloc_new w (.cells #[.int .i64 pos, .int .i64 par, .int .i64 typ, .int .i64 wid] 35)
  have hga := (Grew.refl w).alloc (.cells #[.int .i64 pos, .int .i64 par, .int .i64 typ, .int .i64 wid] 35)
  have hz1 : (w.alloc (.cells #[.int .i64 pos, .int .i64 par, .int .i64 typ, .int .i64 wid] 35)).heap.size = pr + 1 := by rw [World.size_alloc, hpr]
  generalize (w.alloc (.cells #[.int .i64 pos, .int .i64 par, .int .i64 typ, .int .i64 wid] 35)) = x1 at *
  rw [hpr] at hr1 ⊢
  have hr2 := heap_alloc_new x1 (.cells #[.int .i64 k, .int .i64 n, .int .u64 u, .string s, .slice a4 keys.length c4, .slice a5 l.length c5] 27)
  have hgb := (Grew.refl x1).alloc (.cells #[.int .i64 k, .int .i64 n, .int .u64 u, .string s, .slice a4 keys.length c4, .slice a5 l.length c5] 27)
  generalize (x1.alloc (.cells #[.int .i64 k, .int .i64 n, .int .u64 u, .string s, .slice a4 keys.length c4, .slice a5 l.length c5] 27)) = x2 at *
  rw [hz1] at hr2
  try rw [hz1]
  have HRR := Lib.hid (hgb.heap hr1)
  have HRT := Lib.hid hr2
  replace HG := Lib.hid (hga.trans hgb)
  clear hr1 hr2 hz1 hpr hga hgb
  have c0 := row_cellT HRR.out 0 _ rfl
  have c1 := row_cellT HRR.out 1 _ rfl
  have c2 := row_cellT HRR.out 2 _ rfl
  have c3 := row_cellT HRR.out 3 _ rfl
  have e0 := row_cellT HRT.out 0 _ rfl
  have e1 := row_cellT HRT.out 1 _ rfl
  have e2 := row_cellT HRT.out 2 _ rfl
  have e3 := row_cellT HRT.out 3 _ rfl
  have e4 := row_cellT HRT.out 4 _ rfl
  have e5 := row_cellT HRT.out 5 _ rfl
  go_quiet (fail)
  have hgc := (Grew.refl x2).drewN nq
  obtain ⟨x3, hx3⟩ : ∃ x3, x2.drewN nq = x3 := ⟨_, rfl⟩
  rw [hx3] at hgc ⊢
  clear hx3
  clear c0 c1 c2 c3
  clear e0 e1 e2 e3 e4 e5
  replace HRR := Lib.hid (hgc.heap HRR.out)
  replace HRT := Lib.hid (hgc.heap HRT.out)
  replace HG := Lib.hid (HG.out.trans hgc)
  clear hgc
  have c0 := row_cellT HRR.out 0 _ rfl
  have c1 := row_cellT HRR.out 1 _ rfl
  have c2 := row_cellT HRR.out 2 _ rfl
  have c3 := row_cellT HRR.out 3 _ rfl
  have e0 := row_cellT HRT.out 0 _ rfl
  have e1 := row_cellT HRT.out 1 _ rfl
  have e2 := row_cellT HRT.out 2 _ rfl
  have e3 := row_cellT HRT.out 3 _ rfl
  have e4 := row_cellT HRT.out 4 _ rfl
  have e5 := row_cellT HRT.out 5 _ rfl
  go_wp2_with fail
  refine (HSP.out x3).mono ?_
  rintro r u1 ⟨rfl, hgc⟩
  clear c0 c1 c2 c3
  clear e0 e1 e2 e3 e4 e5
  replace HRR := Lib.hid (hgc.heap HRR.out)
  replace HRT := Lib.hid (hgc.heap HRT.out)
  replace HG := Lib.hid (HG.out.trans hgc)
  clear hgc
  have c0 := row_cellT HRR.out 0 _ rfl
  have c1 := row_cellT HRR.out 1 _ rfl
  have c2 := row_cellT HRR.out 2 _ rfl
  have c3 := row_cellT HRR.out 3 _ rfl
  have e0 := row_cellT HRT.out 0 _ rfl
  have e1 := row_cellT HRT.out 1 _ rfl
  have e2 := row_cellT HRT.out 2 _ rfl
  have e3 := row_cellT HRT.out 3 _ rfl
  have e4 := row_cellT HRT.out 4 _ rfl
  have e5 := row_cellT HRT.out 5 _ rfl
  have hws : IntKind.i64.wrap ((l.length : Int) * wid) = (l.length : Int) * wid := by rw [IntKind.wrap_i64]; omega
  have hwe : IntKind.i64.wrap (at_ + (l.length : Int) * wid) = at_ + (l.length : Int) * wid := by rw [IntKind.wrap_i64]; omega
  have hwt : IntKind.i64.wrap (at_ + (l.length : Int) * wid + l.length) = at_ + (l.length : Int) * wid + l.length := by rw [IntKind.wrap_i64]; omega
  have hwf : IntKind.i64.wrap (at_ - wid) = at_ - wid := by rw [IntKind.wrap_i64]; omega
  have hw3 : IntKind.i64.wrap (3 * wid) = 3 * wid := by rw [IntKind.wrap_i64]; omega
  have hwm3 : IntKind.i64.wrap (at_ - 3 * wid) = at_ - 3 * wid := by rw [IntKind.wrap_i64]; omega
  have ht : Int.tmod at_ wid = at_ % wid := Int.tmod_eq_emod_of_nonneg ha.1
  have hwz : (wid == 0) = false := by rw [beq_eq_false_iff_ne]; omega
  have hm0 : 0 ≤ at_ % wid ∧ at_ % wid < 8 := ⟨Int.emod_nonneg _ (by omega), Int.lt_of_lt_of_le (Int.emod_lt_of_pos _ (by omega)) hw1.2⟩
  have hwm : IntKind.i64.wrap (at_ % wid) = at_ % wid := by rw [IntKind.wrap_i64]; omega
  obtain ⟨md, hmd⟩ : ∃ q, at_ % wid = q := ⟨_, rfl⟩
  rw [hmd] at ht hwm hm0 HRES
  clear hmd
  obtain ⟨K0, hK0⟩ : ∃ b, kidsF d typ wid at_ l.length 0 l = b := ⟨_, rfl⟩
  rw [hK0] at HRES
  have HK0 := Lib.hid hK0
  clear hK0
  obtain rfl : many = 0 := HSR.out.2.2 (.inr h10)
  subst h10
  go_upto_region 8 with fail
  have hrp := heap_alloc_new u1 (.cells #[.int .i64 k, .int .i64 n, .int .u64 u, .string s, .slice a4 keys.length c4, .slice none 0 0] 27)
  have hgc := (Grew.refl u1).alloc (.cells #[.int .i64 k, .int .i64 n, .int .u64 u, .string s, .slice a4 keys.length c4, .slice none 0 0] 27)
  obtain ⟨pp, hpp⟩ : ∃ N, u1.heap.size = N := ⟨_, rfl⟩
  generalize (u1.alloc (.cells #[.int .i64 k, .int .i64 n, .int .u64 u, .string s, .slice a4 keys.length c4, .slice none 0 0] 27)) = u3 at *
  rw [hpp] at hrp ⊢
  have HRP := Lib.hid hrp
  clear hrp hpp
  clear c0 c1 c2 c3
  clear e0 e1 e2 e3 e4 e5
  replace HRR := Lib.hid (hgc.heap HRR.out)
  replace HRT := Lib.hid (hgc.heap HRT.out)
  replace HG := Lib.hid (HG.out.trans hgc)
  clear hgc
  have c0 := row_cellT HRR.out 0 _ rfl
  have c1 := row_cellT HRR.out 1 _ rfl
  have c2 := row_cellT HRR.out 2 _ rfl
  have c3 := row_cellT HRR.out 3 _ rfl
  have e0 := row_cellT HRT.out 0 _ rfl
  have e1 := row_cellT HRT.out 1 _ rfl
  have e2 := row_cellT HRT.out 2 _ rfl
  have e3 := row_cellT HRT.out 3 _ rfl
  have e4 := row_cellT HRT.out 4 _ rfl
  have e5 := row_cellT HRT.out 5 _ rfl
  have p0 := row_cellT HRP.out 0 _ rfl
  have p1 := row_cellT HRP.out 1 _ rfl
  have p2 := row_cellT HRP.out 2 _ rfl
  have p3 := row_cellT HRP.out 3 _ rfl
  have p4 := row_cellT HRP.out 4 _ rfl
  have p5 := row_cellT HRP.out 5 _ rfl
  obtain ⟨b0, hb0⟩ : ∃ b, bareF (.mk k n u s keys []) 10 0 0 EMB = b := ⟨_, rfl⟩
  have HB0 := Lib.hid hb0
  clear hb0
  have HRS : Hid (res = (b0 && decide (md = 0) && decide (at_ + (l.length : Int) * wid + (l.length : Int) ≤ d.length) && ((numF d (at_ - wid) wid).2 && decide ((numF d (at_ - wid) wid).1 = l.length)) && true && K0)) := by show _ = _; rw [← HRES.out, ← HB0.out]; rfl
  have hnp : NodeAt u3 (.mk k n u s keys []) (.agg #[.int .i64 k, .int .i64 n, .int .u64 u, .string s, .slice a4 keys.length c4, .slice none 0 0]) := ⟨HB.out, _, _, [], rfl, HKS.out.grew HG.out, RowsAt.nil _, rfl⟩
  have hh := bare_any _ _ 10 0 0 ⟨#[]⟩ _ hnp
  rw [show bareF (.mk k n u s keys []) 10 0 0 ⟨#[]⟩ = b0 from HB0.out] at hh
  have HH := Lib.hid hh
  clear hh hnp
  go_wp2_with fail
  refine HH.out.mono ?_
  rintro r u4 ⟨rfl, hgc⟩
  clear c0 c1 c2 c3
  clear e0 e1 e2 e3 e4 e5
  clear p0 p1 p2 p3 p4 p5
  replace HRR := Lib.hid (hgc.heap HRR.out)
  replace HRT := Lib.hid (hgc.heap HRT.out)
  replace HG := Lib.hid (HG.out.trans hgc)
  clear hgc
  have c0 := row_cellT HRR.out 0 _ rfl
  have c1 := row_cellT HRR.out 1 _ rfl
  have c2 := row_cellT HRR.out 2 _ rfl
  have c3 := row_cellT HRR.out 3 _ rfl
  have e0 := row_cellT HRT.out 0 _ rfl
  have e1 := row_cellT HRT.out 1 _ rfl
  have e2 := row_cellT HRT.out 2 _ rfl
  have e3 := row_cellT HRT.out 3 _ rfl
  have e4 := row_cellT HRT.out 4 _ rfl
  have e5 := row_cellT HRT.out 5 _ rfl
  cases b0
  · skip
    have HV : Hid (res = false) := by show _ = _; rw [HRS.out]; simp
    go_wp2_with fail
    go_ret
    exact ⟨by rw [HV.out]; rfl, HG.out⟩
  by_cases hmd0 : md = 0
  rotate_left
  · have hbx : (md != 0) = true := by simpa using hmd0
    have HV : Hid (res = false) := by show _ = _; rw [HRS.out]; simp [hmd0]
    go_wp2_with fail
    go_ret
    exact ⟨by rw [HV.out]; rfl, HG.out⟩
  subst hmd0
  by_cases hend : at_ + (l.length : Int) * wid + (l.length : Int) ≤ d.length
  rotate_left
  · have hgt : (d.length : Int) < at_ + (l.length : Int) * wid + (l.length : Int) := by omega
    have HV : Hid (res = false) := by show _ = _; rw [HRS.out]; simp [hend]
    go_wp2_with fail
    go_ret
    exact ⟨by rw [HV.out]; rfl, HG.out⟩
  obtain ⟨nn, hnn⟩ : ∃ q, numF d (at_ - wid) wid = q := ⟨_, rfl⟩
  have hnum := dnum_any d (.slice da d.length dc) (at_ - wid) wid
  rw [hnn] at HRS hnum
  have HNU := Lib.hid hnum
  clear hnn hnum
  obtain ⟨nv, ni⟩ := nn
  simp only at HRS HNU
  go_wp2_with fail
  refine (HNU.out u4 (HD.out.grew HG.out) (by unfold i64ok; omega)).mono ?_
  rintro r u5 ⟨rfl, hgc⟩
  clear c0 c1 c2 c3
  clear e0 e1 e2 e3 e4 e5
  replace HRR := Lib.hid (hgc.heap HRR.out)
  replace HRT := Lib.hid (hgc.heap HRT.out)
  replace HG := Lib.hid (HG.out.trans hgc)
  clear hgc
  have c0 := row_cellT HRR.out 0 _ rfl
  have c1 := row_cellT HRR.out 1 _ rfl
  have c2 := row_cellT HRR.out 2 _ rfl
  have c3 := row_cellT HRR.out 3 _ rfl
  have e0 := row_cellT HRT.out 0 _ rfl
  have e1 := row_cellT HRT.out 1 _ rfl
  have e2 := row_cellT HRT.out 2 _ rfl
  have e3 := row_cellT HRT.out 3 _ rfl
  have e4 := row_cellT HRT.out 4 _ rfl
  have e5 := row_cellT HRT.out 5 _ rfl
  cases ni
  · skip
    have HV : Hid (res = false) := by show _ = _; rw [HRS.out]; simp
    go_wp2_with fail
    go_ret
    exact ⟨by rw [HV.out]; rfl, HG.out⟩
  by_cases hnv : nv = (l.length : Int)
  rotate_left
  · have hbx : (nv != (l.length : Int)) = true := by simpa using hnv
    have HV : Hid (res = false) := by show _ = _; rw [HRS.out]; simp [hnv]
    go_wp2_with fail
    go_ret
    exact ⟨by rw [HV.out]; rfl, HG.out⟩
  have hbx : (nv != (l.length : Int)) = false := by simpa using hnv
  have HRS2 : Hid (res = K0) := by show _ = _; rw [HRS.out]; simp [hnv, hend]
  clear hnv
  have hel := Ft.elem_any typ
  obtain ⟨el, hel2⟩ : ∃ e, Ft.elemF typ = e := ⟨_, rfl⟩
  rw [hel2] at hel
  have HEL := Lib.hid hel
  have HEQ := Lib.hid hel2
  clear hel hel2
  obtain ⟨el1, el2, el3⟩ := el
  simp only at HEL
  have HFI : Hid (firstF typ wid at_ = at_ - wid) := by show _ = _; unfold firstF; rw [HQ.out]; rfl
  have HEO : Hid (∀ i : Nat, elemOf d typ wid at_ l.length i = Ft.unpackF ((d[(at_ + (l.length : Int) * wid + i).toNat]?).getD 0).toNat) := fun i => by unfold elemOf; rw [HQ.out]; rfl
  go_wp2_with fail
  refine (HEL.out _).mono ?_
  rintro r u7 ⟨rfl, hgc⟩
  clear c0 c1 c2 c3
  clear e0 e1 e2 e3 e4 e5
  replace HRR := Lib.hid (hgc.heap HRR.out)
  replace HRT := Lib.hid (hgc.heap HRT.out)
  replace HG := Lib.hid (HG.out.trans hgc)
  clear hgc
  have c0 := row_cellT HRR.out 0 _ rfl
  have c1 := row_cellT HRR.out 1 _ rfl
  have c2 := row_cellT HRR.out 2 _ rfl
  have c3 := row_cellT HRR.out 3 _ rfl
  have e0 := row_cellT HRT.out 0 _ rfl
  have e1 := row_cellT HRT.out 1 _ rfl
  have e2 := row_cellT HRT.out 2 _ rfl
  have e3 := row_cellT HRT.out 3 _ rfl
  have e4 := row_cellT HRT.out 4 _ rfl
  have e5 := row_cellT HRT.out 5 _ rfl
  have HEND : Hid (at_ + (l.length : Int) * wid + (l.length : Int) ≤ d.length) := hend
  go_upto_region 27 with fail
  go_wp2_with fail
  clear c0 c1 c2 c3
  clear e0 e1 e2 e3 e4 e5
  go_loopw [136] (fun i wr => ∃ kk : Nat, kk ≤ l.length ∧ i = .int .i64 kk ∧ Hid (Grew u7 wr ∧ K0 = kidsF d typ wid at_ l.length kk (l.drop kk))) (fun i _ => l.length - (intOf i).toNat)
  case atStart => exact ⟨0, Nat.zero_le _, rfl, by show _ ∧ _; exact ⟨Grew.refl _, by rw [List.drop_zero]; exact HK0.out.symm⟩⟩
  case round =>
    obtain ⟨kk, hkk, rfl, HL⟩ := hrel
    have HGW := Lib.hid (HG.out.trans HL.out.1)
    by_cases hlt : kk < l.length
    rotate_left
    · have ek : kk = l.length := by omega
      have HV : Hid (res = true) := by show _ = _; rw [HRS2.out, HL.out.2, ek, List.drop_length]; rfl
      subst ek
      clear hlt
      go_wp2_with fail
      go_ret
      exact ⟨by rw [HV.out]; rfl, HGW.out⟩
    obtain ⟨x, hx⟩ : ∃ x, l[kk]? = some x := ⟨_, List.getElem?_eq_getElem hlt⟩
    obtain ⟨xv, hxv, hnx⟩ := HKD.out.get hx
    have hxm : x ∈ l := List.mem_of_getElem? hx
    have HDR : Hid (l.drop kk = x :: l.drop (kk + 1)) := by show _ = _; rw [List.drop_eq_getElem_cons hlt]; congr 1; rw [List.getElem?_eq_getElem hlt] at hx; injection hx
    obtain ⟨b, off, rfl, hc6⟩ : ∃ b off, a5 = some ⟨b, off, none⟩ ∧ Cells6 wr b (off + kk * 6) xv := by
      obtain ⟨a, c, e, _, _, _, h⟩ := HRL.out
      injection e with e1 e2 e3
      subst e1
      obtain ⟨b, off, e, h6⟩ := h kk xv hxv
      exact ⟨b, off, e, h6.grew HGW.out⟩
    obtain ⟨xk, xn, xu, xs, xa4, xn4, xc4, xa5, xn5, xc5, rfl⟩ := hnx.node6
    obtain ⟨f0, f1, f2, f3, f4, f5⟩ := hc6.get
    have HNX := Lib.hid (hnx.grew HGW.out)
    have hlti : (kk : Int) < l.length := by omega
    have hkw : 0 ≤ (kk : Int) * wid ∧ (kk : Int) * wid ≤ 32768 := by
      refine ⟨Int.mul_nonneg (by omega) (by omega), ?_⟩
      have h1 := Int.mul_le_mul (show (kk : Int) ≤ 4096 by omega) hw1.2 (by omega) (by omega)
      omega
    have hwk : IntKind.i64.wrap ((kk : Int) * wid) = (kk : Int) * wid := by rw [IntKind.wrap_i64]; omega
    have hwk2 : IntKind.i64.wrap (at_ + (kk : Int) * wid) = at_ + (kk : Int) * wid := by rw [IntKind.wrap_i64]; omega
    have HSX := Lib.hid (HHK.out x hxm)
    clear hc6 hx hxv hnx hxm
    have hix : (at_ + (l.length : Int) * wid + (kk : Int)).toNat < d.length := by have := HEND.out; omega
    have hwx : IntKind.i64.wrap (at_ + (l.length : Int) * wid + (kk : Int)) = at_ + (l.length : Int) * wid + (kk : Int) := by rw [IntKind.wrap_i64]; omega
    have hend2 : at_ + (l.length : Int) * wid + (kk : Int) < d.length := by have := HEND.out; omega
    have hpos2 : 0 ≤ at_ + (l.length : Int) * wid + (kk : Int) := by omega
    obtain ⟨by_, hby⟩ : ∃ b, d[(at_ + (l.length : Int) * wid + (kk : Int)).toNat]? = some b := ⟨_, List.getElem?_eq_getElem hix⟩
    obtain ⟨bl, bo, rfl, hcb⟩ : ∃ bl bo, da = some ⟨bl, bo, none⟩ ∧ w.cell? ⟨bl, bo + (at_ + (l.length : Int) * wid + (kk : Int)).toNat, none⟩ = some (.int .u8 by_.toNat) := by
      obtain ⟨⟨a, c, e, _, _, h⟩, _⟩ := HD.out
      cases e
      obtain ⟨bl, bo, e, hc⟩ := h _ by_ hby
      exact ⟨bl, bo, e, hc⟩
    have hun := Ft.unpack_any by_.toNat
    obtain ⟨un, hun2⟩ : ∃ q, Ft.unpackF by_.toNat = q := ⟨_, rfl⟩
    rw [hun2] at hun
    have HUN := Lib.hid hun
    have HEK : Hid (elemOf d typ wid at_ l.length kk = un) := by show _ = _; rw [HEO.out, hby]; exact hun2
    clear hun hun2 hby
    obtain ⟨own, wide, ue⟩ := un
    simp only at HUN
    go_upto_region 31 with fail
    obtain ⟨px, hpx⟩ : ∃ N, wr.heap.size = N := ⟨_, rfl⟩
    have hrx := heap_alloc_new wr (.cells #[.int .i64 xk, .int .i64 xn, .int .u64 xu, .string xs, .slice xa4 xn4 xc4, .slice xa5 xn5 xc5] 27)
    have hgx := (Grew.refl wr).alloc (.cells #[.int .i64 xk, .int .i64 xn, .int .u64 xu, .string xs, .slice xa4 xn4 xc4, .slice xa5 xn5 xc5] 27)
    have hzx : (wr.alloc (.cells #[.int .i64 xk, .int .i64 xn, .int .u64 xu, .string xs, .slice xa4 xn4 xc4, .slice xa5 xn5 xc5] 27)).heap.size = px + 1 := by rw [World.size_alloc, hpx]
    generalize (wr.alloc (.cells #[.int .i64 xk, .int .i64 xn, .int .u64 xu, .string xs, .slice xa4 xn4 xc4, .slice xa5 xn5 xc5] 27)) = y1 at *
    rw [hpx] at hrx ⊢
    have hry := heap_alloc_new y1 (.cells #[.int .i64 (at_ + (kk : Int) * wid), .int .i64 wid, .int .i64 el1, .int .i64 wid] 35)
    have hgy := (Grew.refl y1).alloc (.cells #[.int .i64 (at_ + (kk : Int) * wid), .int .i64 wid, .int .i64 el1, .int .i64 wid] 35)
    generalize (y1.alloc (.cells #[.int .i64 (at_ + (kk : Int) * wid), .int .i64 wid, .int .i64 el1, .int .i64 wid] 35)) = y2 at *
    rw [hzx] at hry
    try rw [hzx]
    have HRX := Lib.hid (hgy.heap hrx)
    have HRY := Lib.hid hry
    have HGY := Lib.hid (hgx.trans hgy)
    have HPX := Lib.hid hpx
    have hcb2 := (HGW.out.trans HGY.out).cell hcb
    clear hrx hry hgx hgy hzx hpx f0 f1 f2 f3 f4 f5
    go_wp2_with fail
    refine (HUN.out y2 (by exact UInt8.toNat_lt _)).mono ?_
    rintro r y3 ⟨rfl, hg4⟩
    have HG4 := Lib.hid (HGY.out.trans hg4)
    have HRX3 := Lib.hid (hg4.heap HRX.out)
    have HRY3 := Lib.hid (hg4.heap HRY.out)
    clear hg4 hcb2
    by_cases hue : ue = 0
    rotate_left
    · have hbu : (ue != 0) = true := by simpa using hue
      have HV : Hid (res = false) := by show _ = _; rw [HRS2.out, HL.out.2, HDR.out, kidsF, HEK.out, decide_eq_false hue]; rfl
      have HGF := Lib.hid (HGW.out.trans HG4.out)
      clear hue
      go_wp2_with fail
      go_ret
      exact ⟨by rw [HV.out]; rfl, HGF.out⟩
    subst hue
    have fy2 := row_frozen HRY3.out 2
    have fy3 := row_frozen HRY3.out 3
    have cy2 := row_cellT HRY3.out 2 _ rfl
    have cy3 := row_cellT HRY3.out 3 _ rfl
    go_upto_region 36 with fail
    have hry4 := heap_setCell_same _ (px + 1) 3 _ _ (.int .i64 wide) (heap_setCell_same y3 (px + 1) 2 _ _ (.int .i64 own) HRY3.out)
    have hmy : Moved (fun g => g = px + 1) y3 ((y3.setCell ⟨px + 1, 2, none⟩ (.int .i64 own)).setCell ⟨px + 1, 3, none⟩ (.int .i64 wide)) := Moved.setCell (S := fun g => g = px + 1) (p := ⟨px + 1, 3, none⟩) (Moved.setCell (S := fun g => g = px + 1) (p := ⟨px + 1, 2, none⟩) (Moved.refl _ y3) (fun _ => rfl) _) (fun _ => rfl) _
    have hg5 : Grew wr ((y3.setCell ⟨px + 1, 2, none⟩ (.int .i64 own)).setCell ⟨px + 1, 3, none⟩ (.int .i64 wide)) := Moved.fresh HG4.out hmy (fun g e => by have := HPX.out; omega)
    have hrx4 := hmy.heap HRX3.out (by omega)
    generalize ((y3.setCell ⟨px + 1, 2, none⟩ (.int .i64 own)).setCell ⟨px + 1, 3, none⟩ (.int .i64 wide)) = y4 at *
    have HG5 := Lib.hid hg5
    clear hmy hg5 fy2 fy3 cy2 cy3
    have g0 := row_cellT hry4 0 _ rfl
    have g1 := row_cellT hry4 1 _ rfl
    have g2 := row_cellT hry4 2 _ rfl
    have g3 := row_cellT hry4 3 _ rfl
    have f0 := row_cellT hrx4 0 _ rfl
    have f1 := row_cellT hrx4 1 _ rfl
    have f2 := row_cellT hrx4 2 _ rfl
    have f3 := row_cellT hrx4 3 _ rfl
    have f4 := row_cellT hrx4 4 _ rfl
    have f5 := row_cellT hrx4 5 _ rfl
    clear hry4 hrx4
    have hsay := HSX.out own (.inl (by rw [HQ.out])) (.slice (some ⟨bl, bo, none⟩) d.length dc) (at_ + (kk : Int) * wid) wid wide (at_ - wid) _ y4 (HD.out.grew (HGW.out.trans HG5.out)) (HNX.out.grew HG5.out) (by unfold i64ok; omega)
    obtain ⟨sB, hsB⟩ : ∃ b, saysF d own (at_ + (kk : Int) * wid) wid wide (at_ - wid) x = b := ⟨_, rfl⟩
    rw [hsB] at hsay
    have HKX : Hid (K0 = (sB && kidsF d typ wid at_ l.length (kk + 1) (l.drop (kk + 1)))) := by show _ = _; rw [HL.out.2, HDR.out, kidsF, HEK.out]; simp only; rw [HFI.out, hsB]; rfl
    have HSAY := Lib.hid hsay
    clear hsay hsB
    go_wp2_with fail
    refine HSAY.out.mono ?_
    rintro r y5 ⟨rfl, hg6⟩
    have HG6 := Lib.hid (HG5.out.trans hg6)
    clear hg6 g0 g1 g2 g3 f0 f1 f2 f3 f4 f5
    cases sB
    · have HV : Hid (res = false) := by show _ = _; rw [HRS2.out, HKX.out]; rfl
      have HGF := Lib.hid (HGW.out.trans HG6.out)
      go_wp2_with fail
      go_ret
      exact ⟨by rw [HV.out]; rfl, HGF.out⟩
    · go_wp2_with fail
      go_roundw
      case rel => exact ⟨kk + 1, by omega, by go_num, by
        show _ ∧ _
        exact ⟨HL.out.1.trans HG6.out, by rw [HKX.out]; rfl⟩⟩
      case measure => simp [intOf]; omega
end Go.Proofs.Ytlhliolknaopjaa

/-
  Denote: list at a typed vector, where says and keys are given. Conditions: the bytes, the tree lie in memory; the tree is small.
-/
namespace Go.Proofs.Ytlhliolknaopjaa
open Go Go.ChangeShapes Go.WideShapes Go.ChangeAt Go.RowKit Go.Joins Go.Deep
set_option linter.unusedVariables false
set_option linter.unusedSimpArgs false

set_option maxRecDepth 100000 in
set_option maxHeartbeats 4000000 in
theorem list_walkC (d : List UInt8) (typ k n u : Int) (s : ByteArray) (keys : List ByteArray) (l : List Tr) (hl : l.length ≤ 4096) (hkl4 : keys.length ≤ 4096) (hkids : ∀ x ∈ l, ∀ typ', ((shapeF typ).1 = 10 ∨ (shapeF typ).1 = 17 ∨ typ' = (Ft.elemF typ).1) → SaysOn d typ' x) (hkeys : (shapeF typ).1 = 17 → KeysOn d keys) (hcase : (¬ (shapeF typ).1 = 17 ∧ ¬ (shapeF typ).1 = 10) ∧ (shapeF typ).2 = 0) : ListOn d typ (.mk k n u s keys l) := by
  intro dv pos par wid at_ tv w hD hn ha hw
  simp only [NodeAt] at hn
  obtain ⟨hb, kv, lv, vs, rfl, hks, hrl, hkd⟩ := hn
  have hkl := hkd.length
  have HD := Lib.hid hD
  have HKS := Lib.hid hks
  have HB := Lib.hid hb
  have hdl := hD.2.1
  obtain ⟨da, dc, rfl, hdc⟩ := hD.form
  obtain ⟨a4, c4, rfl, hk1, hk2, hk3⟩ := hks
  have HRL := Lib.hid hrl
  obtain ⟨a5, c5, rfl, hl1, hl2, hl3, hl4⟩ := hrl
  rw [hkl] at HRL hl1 ⊢
  have HKD := Lib.hid hkd
  have HHK := Lib.hid hkids
  have HKY := Lib.hid hkeys
  have HW := Lib.hid hw
  have hlc : (l.length : Int) ≤ c5 := by omega
  clear hD hb hk1 hk2 hk3 hl2 hl3 hl4 hkd hkl hkids hkeys hl1
  have hw1 : 1 ≤ wid ∧ wid ≤ 8 := by rcases isW_cases hw with rfl | rfl | rfl | rfl <;> omega
  have hnw : 0 ≤ (l.length : Int) * wid ∧ (l.length : Int) * wid ≤ 32768 := by
    refine ⟨Int.mul_nonneg (by omega) (by omega), ?_⟩
    have h1 := Int.mul_le_mul (show (l.length : Int) ≤ 4096 by omega) hw1.2 (by omega) (by omega)
    omega
  have HSR := Lib.hid (shape_range typ)
  obtain ⟨q, hq⟩ : ∃ q, shapeF typ = q := ⟨_, rfl⟩
  rw [hq] at HSR
  have hshp := shape_any typ
  rw [hq] at hshp
  have HSP := Lib.hid hshp
  clear hshp
  obtain ⟨kd, many⟩ := q
  simp only at HSR HSP
  obtain ⟨res, hres⟩ : ∃ b, listF d typ wid at_ (.mk k n u s keys l) = b := ⟨_, rfl⟩
  rw [hres]
  have HRES := Lib.hid hres
  clear hres
  rw [list_form hq] at HRES
  obtain ⟨⟨h17, h10⟩, hm⟩ : (¬ kd = 17 ∧ ¬ kd = 10) ∧ many = 0 := by rw [hq] at hcase; exact hcase
  clear hcase
  have HQ := Lib.hid hq
  clear hq
  have HG := Lib.hid (Grew.refl w)
  go_enter Try.func47, Try.ntmps47
  go_upto_region 1 with fail
  obtain ⟨pr, hpr⟩ : ∃ N, w.heap.size = N := ⟨_, rfl⟩
  have HPR := Lib.hid hpr
  have hr1 := heap_alloc_new w (.cells #[.int .i64 pos, .int .i64 par, .int .i64 typ, .int .i64 wid] 35)
  have hga := (Grew.refl w).alloc (.cells #[.int .i64 pos, .int .i64 par, .int .i64 typ, .int .i64 wid] 35)
  have hz1 : (w.alloc (.cells #[.int .i64 pos, .int .i64 par, .int .i64 typ, .int .i64 wid] 35)).heap.size = pr + 1 := by rw [World.size_alloc, hpr]
  generalize (w.alloc (.cells #[.int .i64 pos, .int .i64 par, .int .i64 typ, .int .i64 wid] 35)) = x1 at *
  rw [hpr] at hr1 ⊢
  have hr2 := heap_alloc_new x1 (.cells #[.int .i64 k, .int .i64 n, .int .u64 u, .string s, .slice a4 keys.length c4, .slice a5 l.length c5] 27)
  have hgb := (Grew.refl x1).alloc (.cells #[.int .i64 k, .int .i64 n, .int .u64 u, .string s, .slice a4 keys.length c4, .slice a5 l.length c5] 27)
  generalize (x1.alloc (.cells #[.int .i64 k, .int .i64 n, .int .u64 u, .string s, .slice a4 keys.length c4, .slice a5 l.length c5] 27)) = x2 at *
  rw [hz1] at hr2
  try rw [hz1]
  have HRR := Lib.hid (hgb.heap hr1)
  have HRT := Lib.hid hr2
  replace HG := Lib.hid (hga.trans hgb)
  clear hr1 hr2 hz1 hpr hga hgb
  have c0 := row_cellT HRR.out 0 _ rfl
  have c1 := row_cellT HRR.out 1 _ rfl
  have c2 := row_cellT HRR.out 2 _ rfl
  have c3 := row_cellT HRR.out 3 _ rfl
  have e0 := row_cellT HRT.out 0 _ rfl
  have e1 := row_cellT HRT.out 1 _ rfl
  have e2 := row_cellT HRT.out 2 _ rfl
  have e3 := row_cellT HRT.out 3 _ rfl
  have e4 := row_cellT HRT.out 4 _ rfl
  have e5 := row_cellT HRT.out 5 _ rfl
  go_quiet (fail)
  have hgc := (Grew.refl x2).drewN nq
  obtain ⟨x3, hx3⟩ : ∃ x3, x2.drewN nq = x3 := ⟨_, rfl⟩
  rw [hx3] at hgc ⊢
  clear hx3
  clear c0 c1 c2 c3
  clear e0 e1 e2 e3 e4 e5
  replace HRR := Lib.hid (hgc.heap HRR.out)
  replace HRT := Lib.hid (hgc.heap HRT.out)
  replace HG := Lib.hid (HG.out.trans hgc)
  clear hgc
  have c0 := row_cellT HRR.out 0 _ rfl
  have c1 := row_cellT HRR.out 1 _ rfl
  have c2 := row_cellT HRR.out 2 _ rfl
  have c3 := row_cellT HRR.out 3 _ rfl
  have e0 := row_cellT HRT.out 0 _ rfl
  have e1 := row_cellT HRT.out 1 _ rfl
  have e2 := row_cellT HRT.out 2 _ rfl
  have e3 := row_cellT HRT.out 3 _ rfl
  have e4 := row_cellT HRT.out 4 _ rfl
  have e5 := row_cellT HRT.out 5 _ rfl
  go_wp2_with fail
  refine (HSP.out x3).mono ?_
  rintro r u1 ⟨rfl, hgc⟩
  clear c0 c1 c2 c3
  clear e0 e1 e2 e3 e4 e5
  replace HRR := Lib.hid (hgc.heap HRR.out)
  replace HRT := Lib.hid (hgc.heap HRT.out)
  replace HG := Lib.hid (HG.out.trans hgc)
  clear hgc
  have c0 := row_cellT HRR.out 0 _ rfl
  have c1 := row_cellT HRR.out 1 _ rfl
  have c2 := row_cellT HRR.out 2 _ rfl
  have c3 := row_cellT HRR.out 3 _ rfl
  have e0 := row_cellT HRT.out 0 _ rfl
  have e1 := row_cellT HRT.out 1 _ rfl
  have e2 := row_cellT HRT.out 2 _ rfl
  have e3 := row_cellT HRT.out 3 _ rfl
  have e4 := row_cellT HRT.out 4 _ rfl
  have e5 := row_cellT HRT.out 5 _ rfl
  have hws : IntKind.i64.wrap ((l.length : Int) * wid) = (l.length : Int) * wid := by rw [IntKind.wrap_i64]; omega
  have hwe : IntKind.i64.wrap (at_ + (l.length : Int) * wid) = at_ + (l.length : Int) * wid := by rw [IntKind.wrap_i64]; omega
  have hwt : IntKind.i64.wrap (at_ + (l.length : Int) * wid + l.length) = at_ + (l.length : Int) * wid + l.length := by rw [IntKind.wrap_i64]; omega
  have hwf : IntKind.i64.wrap (at_ - wid) = at_ - wid := by rw [IntKind.wrap_i64]; omega
  have hw3 : IntKind.i64.wrap (3 * wid) = 3 * wid := by rw [IntKind.wrap_i64]; omega
  have hwm3 : IntKind.i64.wrap (at_ - 3 * wid) = at_ - 3 * wid := by rw [IntKind.wrap_i64]; omega
  have ht : Int.tmod at_ wid = at_ % wid := Int.tmod_eq_emod_of_nonneg ha.1
  have hwz : (wid == 0) = false := by rw [beq_eq_false_iff_ne]; omega
  have hm0 : 0 ≤ at_ % wid ∧ at_ % wid < 8 := ⟨Int.emod_nonneg _ (by omega), Int.lt_of_lt_of_le (Int.emod_lt_of_pos _ (by omega)) hw1.2⟩
  have hwm : IntKind.i64.wrap (at_ % wid) = at_ % wid := by rw [IntKind.wrap_i64]; omega
  obtain ⟨md, hmd⟩ : ∃ q, at_ % wid = q := ⟨_, rfl⟩
  rw [hmd] at ht hwm hm0 HRES
  clear hmd
  obtain ⟨K0, hK0⟩ : ∃ b, kidsF d typ wid at_ l.length 0 l = b := ⟨_, rfl⟩
  rw [hK0] at HRES
  have HK0 := Lib.hid hK0
  clear hK0
  subst hm
  have hb17 : (kd == 17) = false := by simpa using h17
  have hb10 : (kd == 10) = false := by simpa using h10
  have HN := Lib.hid (And.intro h17 h10)
  clear h17 h10
  have htg : taggedB kd = false := by unfold taggedB; rw [decide_eq_false HN.out.1, decide_eq_false HN.out.2]; rfl
  have HTG := Lib.hid htg
  clear htg
  go_upto_region 8 with fail
  have hrp := heap_alloc_new u1 (.cells #[.int .i64 k, .int .i64 n, .int .u64 u, .string s, .slice a4 keys.length c4, .slice none 0 0] 27)
  have hgc := (Grew.refl u1).alloc (.cells #[.int .i64 k, .int .i64 n, .int .u64 u, .string s, .slice a4 keys.length c4, .slice none 0 0] 27)
  obtain ⟨pp, hpp⟩ : ∃ N, u1.heap.size = N := ⟨_, rfl⟩
  generalize (u1.alloc (.cells #[.int .i64 k, .int .i64 n, .int .u64 u, .string s, .slice a4 keys.length c4, .slice none 0 0] 27)) = u3 at *
  rw [hpp] at hrp ⊢
  have HRP := Lib.hid hrp
  clear hrp hpp
  clear c0 c1 c2 c3
  clear e0 e1 e2 e3 e4 e5
  replace HRR := Lib.hid (hgc.heap HRR.out)
  replace HRT := Lib.hid (hgc.heap HRT.out)
  replace HG := Lib.hid (HG.out.trans hgc)
  clear hgc
  have c0 := row_cellT HRR.out 0 _ rfl
  have c1 := row_cellT HRR.out 1 _ rfl
  have c2 := row_cellT HRR.out 2 _ rfl
  have c3 := row_cellT HRR.out 3 _ rfl
  have e0 := row_cellT HRT.out 0 _ rfl
  have e1 := row_cellT HRT.out 1 _ rfl
  have e2 := row_cellT HRT.out 2 _ rfl
  have e3 := row_cellT HRT.out 3 _ rfl
  have e4 := row_cellT HRT.out 4 _ rfl
  have e5 := row_cellT HRT.out 5 _ rfl
  have p0 := row_cellT HRP.out 0 _ rfl
  have p1 := row_cellT HRP.out 1 _ rfl
  have p2 := row_cellT HRP.out 2 _ rfl
  have p3 := row_cellT HRP.out 3 _ rfl
  have p4 := row_cellT HRP.out 4 _ rfl
  have p5 := row_cellT HRP.out 5 _ rfl
  obtain ⟨b0, hb0⟩ : ∃ b, bareF (.mk k n u s keys []) kd 0 0 EMB = b := ⟨_, rfl⟩
  have HB0 := Lib.hid hb0
  clear hb0
  have HRS : Hid (res = (b0 && decide (md = 0) && decide (at_ + (l.length : Int) * wid + 0 ≤ d.length) && ((numF d (at_ - wid) wid).2 && decide ((numF d (at_ - wid) wid).1 = l.length)) && true && K0)) := by show _ = _; rw [← HRES.out, ← HB0.out, if_neg HN.out.1, if_neg HN.out.1, HTG.out]; rfl
  have hnp : NodeAt u3 (.mk k n u s keys []) (.agg #[.int .i64 k, .int .i64 n, .int .u64 u, .string s, .slice a4 keys.length c4, .slice none 0 0]) := ⟨HB.out, _, _, [], rfl, HKS.out.grew HG.out, RowsAt.nil _, rfl⟩
  have hh := bare_any _ _ kd 0 0 ⟨#[]⟩ _ hnp
  rw [show bareF (.mk k n u s keys []) kd 0 0 ⟨#[]⟩ = b0 from HB0.out] at hh
  have HH := Lib.hid hh
  clear hh hnp
  go_wp2_with fail
  refine HH.out.mono ?_
  rintro r u4 ⟨rfl, hgc⟩
  clear c0 c1 c2 c3
  clear e0 e1 e2 e3 e4 e5
  clear p0 p1 p2 p3 p4 p5
  replace HRR := Lib.hid (hgc.heap HRR.out)
  replace HRT := Lib.hid (hgc.heap HRT.out)
  replace HG := Lib.hid (HG.out.trans hgc)
  clear hgc
  have c0 := row_cellT HRR.out 0 _ rfl
  have c1 := row_cellT HRR.out 1 _ rfl
  have c2 := row_cellT HRR.out 2 _ rfl
  have c3 := row_cellT HRR.out 3 _ rfl
  have e0 := row_cellT HRT.out 0 _ rfl
  have e1 := row_cellT HRT.out 1 _ rfl
  have e2 := row_cellT HRT.out 2 _ rfl
  have e3 := row_cellT HRT.out 3 _ rfl
  have e4 := row_cellT HRT.out 4 _ rfl
  have e5 := row_cellT HRT.out 5 _ rfl
  cases b0
  · skip
    have HV : Hid (res = false) := by show _ = _; rw [HRS.out]; simp
    go_wp2_with fail
    go_ret
    exact ⟨by rw [HV.out]; rfl, HG.out⟩
  by_cases hmd0 : md = 0
  rotate_left
  · have hbx : (md != 0) = true := by simpa using hmd0
    have HV : Hid (res = false) := by show _ = _; rw [HRS.out]; simp [hmd0]
    go_wp2_with fail
    go_ret
    exact ⟨by rw [HV.out]; rfl, HG.out⟩
  subst hmd0
  by_cases hend : at_ + (l.length : Int) * wid ≤ d.length
  rotate_left
  · have hgt : (d.length : Int) < at_ + (l.length : Int) * wid := by omega
    have HV : Hid (res = false) := by show _ = _; rw [HRS.out]; simp [hend]
    go_wp2_with fail
    go_ret
    exact ⟨by rw [HV.out]; rfl, HG.out⟩
  obtain ⟨nn, hnn⟩ : ∃ q, numF d (at_ - wid) wid = q := ⟨_, rfl⟩
  have hnum := dnum_any d (.slice da d.length dc) (at_ - wid) wid
  rw [hnn] at HRS hnum
  have HNU := Lib.hid hnum
  clear hnn hnum
  obtain ⟨nv, ni⟩ := nn
  simp only at HRS HNU
  go_wp2_with fail
  refine (HNU.out u4 (HD.out.grew HG.out) (by unfold i64ok; omega)).mono ?_
  rintro r u5 ⟨rfl, hgc⟩
  clear c0 c1 c2 c3
  clear e0 e1 e2 e3 e4 e5
  replace HRR := Lib.hid (hgc.heap HRR.out)
  replace HRT := Lib.hid (hgc.heap HRT.out)
  replace HG := Lib.hid (HG.out.trans hgc)
  clear hgc
  have c0 := row_cellT HRR.out 0 _ rfl
  have c1 := row_cellT HRR.out 1 _ rfl
  have c2 := row_cellT HRR.out 2 _ rfl
  have c3 := row_cellT HRR.out 3 _ rfl
  have e0 := row_cellT HRT.out 0 _ rfl
  have e1 := row_cellT HRT.out 1 _ rfl
  have e2 := row_cellT HRT.out 2 _ rfl
  have e3 := row_cellT HRT.out 3 _ rfl
  have e4 := row_cellT HRT.out 4 _ rfl
  have e5 := row_cellT HRT.out 5 _ rfl
  cases ni
  · skip
    have HV : Hid (res = false) := by show _ = _; rw [HRS.out]; simp
    go_wp2_with fail
    go_ret
    exact ⟨by rw [HV.out]; rfl, HG.out⟩
  by_cases hnv : nv = (l.length : Int)
  rotate_left
  · have hbx : (nv != (l.length : Int)) = true := by simpa using hnv
    have HV : Hid (res = false) := by show _ = _; rw [HRS.out]; simp [hnv]
    go_wp2_with fail
    go_ret
    exact ⟨by rw [HV.out]; rfl, HG.out⟩
  have hbx : (nv != (l.length : Int)) = false := by simpa using hnv
  have HRS2 : Hid (res = K0) := by show _ = _; rw [HRS.out]; simp [hnv, hend]
  clear hnv
  have hel := Ft.elem_any typ
  obtain ⟨el, hel2⟩ : ∃ e, Ft.elemF typ = e := ⟨_, rfl⟩
  rw [hel2] at hel
  have HEL := Lib.hid hel
  have HEQ := Lib.hid hel2
  clear hel hel2
  obtain ⟨el1, el2, el3⟩ := el
  simp only at HEL
  have HFI : Hid (firstF typ wid at_ = at_ - wid) := by show _ = _; unfold firstF; rw [HQ.out]; simp only; rw [if_neg HN.out.1]; rfl
  have HEO : Hid (∀ i : Nat, elemOf d typ wid at_ l.length i = (el1, wid, 0)) := fun i => by unfold elemOf; rw [HQ.out, HEQ.out]; simp only; rw [HTG.out]; rfl
  go_wp2_with fail
  refine (HEL.out _).mono ?_
  rintro r u7 ⟨rfl, hgc⟩
  clear c0 c1 c2 c3
  clear e0 e1 e2 e3 e4 e5
  replace HRR := Lib.hid (hgc.heap HRR.out)
  replace HRT := Lib.hid (hgc.heap HRT.out)
  replace HG := Lib.hid (HG.out.trans hgc)
  clear hgc
  have c0 := row_cellT HRR.out 0 _ rfl
  have c1 := row_cellT HRR.out 1 _ rfl
  have c2 := row_cellT HRR.out 2 _ rfl
  have c3 := row_cellT HRR.out 3 _ rfl
  have e0 := row_cellT HRT.out 0 _ rfl
  have e1 := row_cellT HRT.out 1 _ rfl
  have e2 := row_cellT HRT.out 2 _ rfl
  have e3 := row_cellT HRT.out 3 _ rfl
  have e4 := row_cellT HRT.out 4 _ rfl
  have e5 := row_cellT HRT.out 5 _ rfl
  have HEND : Hid (at_ + (l.length : Int) * wid ≤ d.length) := hend
  go_upto_region 27 with fail
  go_wp2_with fail
  clear c0 c1 c2 c3
  clear e0 e1 e2 e3 e4 e5
  go_loopw [136] (fun i wr => ∃ kk : Nat, kk ≤ l.length ∧ i = .int .i64 kk ∧ Hid (Grew u7 wr ∧ K0 = kidsF d typ wid at_ l.length kk (l.drop kk))) (fun i _ => l.length - (intOf i).toNat)
  case atStart => exact ⟨0, Nat.zero_le _, rfl, by show _ ∧ _; exact ⟨Grew.refl _, by rw [List.drop_zero]; exact HK0.out.symm⟩⟩
  case round =>
    obtain ⟨kk, hkk, rfl, HL⟩ := hrel
    have HGW := Lib.hid (HG.out.trans HL.out.1)
    by_cases hlt : kk < l.length
    rotate_left
    · have ek : kk = l.length := by omega
      have HV : Hid (res = true) := by show _ = _; rw [HRS2.out, HL.out.2, ek, List.drop_length]; rfl
      subst ek
      clear hlt
      go_wp2_with fail
      go_ret
      exact ⟨by rw [HV.out]; rfl, HGW.out⟩
    obtain ⟨x, hx⟩ : ∃ x, l[kk]? = some x := ⟨_, List.getElem?_eq_getElem hlt⟩
    obtain ⟨xv, hxv, hnx⟩ := HKD.out.get hx
    have hxm : x ∈ l := List.mem_of_getElem? hx
    have HDR : Hid (l.drop kk = x :: l.drop (kk + 1)) := by show _ = _; rw [List.drop_eq_getElem_cons hlt]; congr 1; rw [List.getElem?_eq_getElem hlt] at hx; injection hx
    obtain ⟨b, off, rfl, hc6⟩ : ∃ b off, a5 = some ⟨b, off, none⟩ ∧ Cells6 wr b (off + kk * 6) xv := by
      obtain ⟨a, c, e, _, _, _, h⟩ := HRL.out
      injection e with e1 e2 e3
      subst e1
      obtain ⟨b, off, e, h6⟩ := h kk xv hxv
      exact ⟨b, off, e, h6.grew HGW.out⟩
    obtain ⟨xk, xn, xu, xs, xa4, xn4, xc4, xa5, xn5, xc5, rfl⟩ := hnx.node6
    obtain ⟨f0, f1, f2, f3, f4, f5⟩ := hc6.get
    have HNX := Lib.hid (hnx.grew HGW.out)
    have hlti : (kk : Int) < l.length := by omega
    have hkw : 0 ≤ (kk : Int) * wid ∧ (kk : Int) * wid ≤ 32768 := by
      refine ⟨Int.mul_nonneg (by omega) (by omega), ?_⟩
      have h1 := Int.mul_le_mul (show (kk : Int) ≤ 4096 by omega) hw1.2 (by omega) (by omega)
      omega
    have hwk : IntKind.i64.wrap ((kk : Int) * wid) = (kk : Int) * wid := by rw [IntKind.wrap_i64]; omega
    have hwk2 : IntKind.i64.wrap (at_ + (kk : Int) * wid) = at_ + (kk : Int) * wid := by rw [IntKind.wrap_i64]; omega
    have HSX := Lib.hid (HHK.out x hxm)
    clear hc6 hx hxv hnx hxm
    have hga := ((Grew.refl wr).alloc (.cells #[.int .i64 xk, .int .i64 xn, .int .u64 xu, .string xs, .slice xa4 xn4 xc4, .slice xa5 xn5 xc5] 27)).alloc (.cells #[.int .i64 (at_ + (kk : Int) * wid), .int .i64 wid, .int .i64 el1, .int .i64 wid] 35)
    have hsay := HSX.out el1 (.inr (.inr (by rw [HEQ.out]))) (.slice da d.length dc) (at_ + (kk : Int) * wid) wid wid (at_ - wid) _ _ (HD.out.grew (HGW.out.trans hga)) (HNX.out.grew hga) (by unfold i64ok; omega)
    obtain ⟨sB, hsB⟩ : ∃ b, saysF d el1 (at_ + (kk : Int) * wid) wid wid (at_ - wid) x = b := ⟨_, rfl⟩
    rw [hsB] at hsay
    have HKX : Hid (K0 = (sB && kidsF d typ wid at_ l.length (kk + 1) (l.drop (kk + 1)))) := by show _ = _; rw [HL.out.2, HDR.out, kidsF, HEO.out]; simp only; rw [HFI.out, hsB]; rfl
    have HSAY := Lib.hid hsay
    have HGA := Lib.hid hga
    clear hsay hsB hga
    go_wp2_with fail
    refine HSAY.out.mono ?_
    rintro r y5 ⟨rfl, hg6⟩
    have HG6 := Lib.hid (HGA.out.trans hg6)
    clear hg6 f0 f1 f2 f3 f4 f5
    cases sB
    · have HV : Hid (res = false) := by show _ = _; rw [HRS2.out, HKX.out]; rfl
      have HGF := Lib.hid (HGW.out.trans HG6.out)
      go_wp2_with fail
      go_ret
      exact ⟨by rw [HV.out]; rfl, HGF.out⟩
    · go_wp2_with fail
      go_roundw
      case rel => exact ⟨kk + 1, by omega, by go_num, by
        show _ ∧ _
        exact ⟨HL.out.1.trans HG6.out, by rw [HKX.out]; rfl⟩⟩
      case measure => simp [intOf]; omega
end Go.Proofs.Ytlhliolknaopjaa

/-
  Denote: list at a fixed vector, where says and keys are given. Conditions: the bytes, the tree lie in memory; the tree is small.
-/
namespace Go.Proofs.Ytlhliolknaopjaa
open Go Go.ChangeShapes Go.WideShapes Go.ChangeAt Go.RowKit Go.Joins Go.Deep
set_option linter.unusedVariables false
set_option linter.unusedSimpArgs false

set_option maxRecDepth 100000 in
set_option maxHeartbeats 4000000 in
theorem list_walkD (d : List UInt8) (typ k n u : Int) (s : ByteArray) (keys : List ByteArray) (l : List Tr) (hl : l.length ≤ 4096) (hkl4 : keys.length ≤ 4096) (hkids : ∀ x ∈ l, ∀ typ', ((shapeF typ).1 = 10 ∨ (shapeF typ).1 = 17 ∨ typ' = (Ft.elemF typ).1) → SaysOn d typ' x) (hkeys : (shapeF typ).1 = 17 → KeysOn d keys) (hcase : (¬ (shapeF typ).1 = 17 ∧ ¬ (shapeF typ).1 = 10) ∧ ¬ (shapeF typ).2 = 0) : ListOn d typ (.mk k n u s keys l) := by
  intro dv pos par wid at_ tv w hD hn ha hw
  simp only [NodeAt] at hn
  obtain ⟨hb, kv, lv, vs, rfl, hks, hrl, hkd⟩ := hn
  have hkl := hkd.length
  have HD := Lib.hid hD
  have HKS := Lib.hid hks
  have HB := Lib.hid hb
  have hdl := hD.2.1
  obtain ⟨da, dc, rfl, hdc⟩ := hD.form
  obtain ⟨a4, c4, rfl, hk1, hk2, hk3⟩ := hks
  have HRL := Lib.hid hrl
  obtain ⟨a5, c5, rfl, hl1, hl2, hl3, hl4⟩ := hrl
  rw [hkl] at HRL hl1 ⊢
  have HKD := Lib.hid hkd
  have HHK := Lib.hid hkids
  have HKY := Lib.hid hkeys
  have HW := Lib.hid hw
  have hlc : (l.length : Int) ≤ c5 := by omega
  clear hD hb hk1 hk2 hk3 hl2 hl3 hl4 hkd hkl hkids hkeys hl1
  have hw1 : 1 ≤ wid ∧ wid ≤ 8 := by rcases isW_cases hw with rfl | rfl | rfl | rfl <;> omega
  have hnw : 0 ≤ (l.length : Int) * wid ∧ (l.length : Int) * wid ≤ 32768 := by
    refine ⟨Int.mul_nonneg (by omega) (by omega), ?_⟩
    have h1 := Int.mul_le_mul (show (l.length : Int) ≤ 4096 by omega) hw1.2 (by omega) (by omega)
    omega
  have HSR := Lib.hid (shape_range typ)
  obtain ⟨q, hq⟩ : ∃ q, shapeF typ = q := ⟨_, rfl⟩
  rw [hq] at HSR
  have hshp := shape_any typ
  rw [hq] at hshp
  have HSP := Lib.hid hshp
  clear hshp
  obtain ⟨kd, many⟩ := q
  simp only at HSR HSP
  obtain ⟨res, hres⟩ : ∃ b, listF d typ wid at_ (.mk k n u s keys l) = b := ⟨_, rfl⟩
  rw [hres]
  have HRES := Lib.hid hres
  clear hres
  rw [list_form hq] at HRES
  obtain ⟨⟨h17, h10⟩, hm⟩ : (¬ kd = 17 ∧ ¬ kd = 10) ∧ ¬ many = 0 := by rw [hq] at hcase; exact hcase
  clear hcase
  have HQ := Lib.hid hq
  clear hq
  have HG := Lib.hid (Grew.refl w)
  go_enter Try.func47, Try.ntmps47
  go_upto_region 1 with fail
  obtain ⟨pr, hpr⟩ : ∃ N, w.heap.size = N := ⟨_, rfl⟩
  have HPR := Lib.hid hpr
  have hr1 := heap_alloc_new w (.cells #[.int .i64 pos, .int .i64 par, .int .i64 typ, .int .i64 wid] 35)
  have hga := (Grew.refl w).alloc (.cells #[.int .i64 pos, .int .i64 par, .int .i64 typ, .int .i64 wid] 35)
  have hz1 : (w.alloc (.cells #[.int .i64 pos, .int .i64 par, .int .i64 typ, .int .i64 wid] 35)).heap.size = pr + 1 := by rw [World.size_alloc, hpr]
  generalize (w.alloc (.cells #[.int .i64 pos, .int .i64 par, .int .i64 typ, .int .i64 wid] 35)) = x1 at *
  rw [hpr] at hr1 ⊢
  have hr2 := heap_alloc_new x1 (.cells #[.int .i64 k, .int .i64 n, .int .u64 u, .string s, .slice a4 keys.length c4, .slice a5 l.length c5] 27)
  have hgb := (Grew.refl x1).alloc (.cells #[.int .i64 k, .int .i64 n, .int .u64 u, .string s, .slice a4 keys.length c4, .slice a5 l.length c5] 27)
  generalize (x1.alloc (.cells #[.int .i64 k, .int .i64 n, .int .u64 u, .string s, .slice a4 keys.length c4, .slice a5 l.length c5] 27)) = x2 at *
  rw [hz1] at hr2
  try rw [hz1]
  have HRR := Lib.hid (hgb.heap hr1)
  have HRT := Lib.hid hr2
  replace HG := Lib.hid (hga.trans hgb)
  clear hr1 hr2 hz1 hpr hga hgb
  have c0 := row_cellT HRR.out 0 _ rfl
  have c1 := row_cellT HRR.out 1 _ rfl
  have c2 := row_cellT HRR.out 2 _ rfl
  have c3 := row_cellT HRR.out 3 _ rfl
  have e0 := row_cellT HRT.out 0 _ rfl
  have e1 := row_cellT HRT.out 1 _ rfl
  have e2 := row_cellT HRT.out 2 _ rfl
  have e3 := row_cellT HRT.out 3 _ rfl
  have e4 := row_cellT HRT.out 4 _ rfl
  have e5 := row_cellT HRT.out 5 _ rfl
  go_quiet (fail)
  have hgc := (Grew.refl x2).drewN nq
  obtain ⟨x3, hx3⟩ : ∃ x3, x2.drewN nq = x3 := ⟨_, rfl⟩
  rw [hx3] at hgc ⊢
  clear hx3
  clear c0 c1 c2 c3
  clear e0 e1 e2 e3 e4 e5
  replace HRR := Lib.hid (hgc.heap HRR.out)
  replace HRT := Lib.hid (hgc.heap HRT.out)
  replace HG := Lib.hid (HG.out.trans hgc)
  clear hgc
  have c0 := row_cellT HRR.out 0 _ rfl
  have c1 := row_cellT HRR.out 1 _ rfl
  have c2 := row_cellT HRR.out 2 _ rfl
  have c3 := row_cellT HRR.out 3 _ rfl
  have e0 := row_cellT HRT.out 0 _ rfl
  have e1 := row_cellT HRT.out 1 _ rfl
  have e2 := row_cellT HRT.out 2 _ rfl
  have e3 := row_cellT HRT.out 3 _ rfl
  have e4 := row_cellT HRT.out 4 _ rfl
  have e5 := row_cellT HRT.out 5 _ rfl
  go_wp2_with fail
  refine (HSP.out x3).mono ?_
  rintro r u1 ⟨rfl, hgc⟩
  clear c0 c1 c2 c3
  clear e0 e1 e2 e3 e4 e5
  replace HRR := Lib.hid (hgc.heap HRR.out)
  replace HRT := Lib.hid (hgc.heap HRT.out)
  replace HG := Lib.hid (HG.out.trans hgc)
  clear hgc
  have c0 := row_cellT HRR.out 0 _ rfl
  have c1 := row_cellT HRR.out 1 _ rfl
  have c2 := row_cellT HRR.out 2 _ rfl
  have c3 := row_cellT HRR.out 3 _ rfl
  have e0 := row_cellT HRT.out 0 _ rfl
  have e1 := row_cellT HRT.out 1 _ rfl
  have e2 := row_cellT HRT.out 2 _ rfl
  have e3 := row_cellT HRT.out 3 _ rfl
  have e4 := row_cellT HRT.out 4 _ rfl
  have e5 := row_cellT HRT.out 5 _ rfl
  have hws : IntKind.i64.wrap ((l.length : Int) * wid) = (l.length : Int) * wid := by rw [IntKind.wrap_i64]; omega
  have hwe : IntKind.i64.wrap (at_ + (l.length : Int) * wid) = at_ + (l.length : Int) * wid := by rw [IntKind.wrap_i64]; omega
  have hwt : IntKind.i64.wrap (at_ + (l.length : Int) * wid + l.length) = at_ + (l.length : Int) * wid + l.length := by rw [IntKind.wrap_i64]; omega
  have hwf : IntKind.i64.wrap (at_ - wid) = at_ - wid := by rw [IntKind.wrap_i64]; omega
  have hw3 : IntKind.i64.wrap (3 * wid) = 3 * wid := by rw [IntKind.wrap_i64]; omega
  have hwm3 : IntKind.i64.wrap (at_ - 3 * wid) = at_ - 3 * wid := by rw [IntKind.wrap_i64]; omega
  have ht : Int.tmod at_ wid = at_ % wid := Int.tmod_eq_emod_of_nonneg ha.1
  have hwz : (wid == 0) = false := by rw [beq_eq_false_iff_ne]; omega
  have hm0 : 0 ≤ at_ % wid ∧ at_ % wid < 8 := ⟨Int.emod_nonneg _ (by omega), Int.lt_of_lt_of_le (Int.emod_lt_of_pos _ (by omega)) hw1.2⟩
  have hwm : IntKind.i64.wrap (at_ % wid) = at_ % wid := by rw [IntKind.wrap_i64]; omega
  obtain ⟨md, hmd⟩ : ∃ q, at_ % wid = q := ⟨_, rfl⟩
  rw [hmd] at ht hwm hm0 HRES
  clear hmd
  obtain ⟨K0, hK0⟩ : ∃ b, kidsF d typ wid at_ l.length 0 l = b := ⟨_, rfl⟩
  rw [hK0] at HRES
  have HK0 := Lib.hid hK0
  clear hK0
  have hb17 : (kd == 17) = false := by simpa using h17
  have hb10 : (kd == 10) = false := by simpa using h10
  have HN := Lib.hid (And.intro h17 h10)
  have hmp : 0 < many := by have := HSR.out; omega
  have hbm : (many == 0) = false := by simpa using hm
  have hmle : many ≤ 4 := by have := HSR.out; omega
  have HMN := Lib.hid hm
  clear h17 h10 hm
  have htg : taggedB kd = false := by unfold taggedB; rw [decide_eq_false HN.out.1, decide_eq_false HN.out.2]; rfl
  have HTG := Lib.hid htg
  clear htg
  go_upto_region 8 with fail
  have hrp := heap_alloc_new u1 (.cells #[.int .i64 k, .int .i64 n, .int .u64 u, .string s, .slice a4 keys.length c4, .slice none 0 0] 27)
  have hgc := (Grew.refl u1).alloc (.cells #[.int .i64 k, .int .i64 n, .int .u64 u, .string s, .slice a4 keys.length c4, .slice none 0 0] 27)
  obtain ⟨pp, hpp⟩ : ∃ N, u1.heap.size = N := ⟨_, rfl⟩
  generalize (u1.alloc (.cells #[.int .i64 k, .int .i64 n, .int .u64 u, .string s, .slice a4 keys.length c4, .slice none 0 0] 27)) = u3 at *
  rw [hpp] at hrp ⊢
  have HRP := Lib.hid hrp
  clear hrp hpp
  clear c0 c1 c2 c3
  clear e0 e1 e2 e3 e4 e5
  replace HRR := Lib.hid (hgc.heap HRR.out)
  replace HRT := Lib.hid (hgc.heap HRT.out)
  replace HG := Lib.hid (HG.out.trans hgc)
  clear hgc
  have c0 := row_cellT HRR.out 0 _ rfl
  have c1 := row_cellT HRR.out 1 _ rfl
  have c2 := row_cellT HRR.out 2 _ rfl
  have c3 := row_cellT HRR.out 3 _ rfl
  have e0 := row_cellT HRT.out 0 _ rfl
  have e1 := row_cellT HRT.out 1 _ rfl
  have e2 := row_cellT HRT.out 2 _ rfl
  have e3 := row_cellT HRT.out 3 _ rfl
  have e4 := row_cellT HRT.out 4 _ rfl
  have e5 := row_cellT HRT.out 5 _ rfl
  have p0 := row_cellT HRP.out 0 _ rfl
  have p1 := row_cellT HRP.out 1 _ rfl
  have p2 := row_cellT HRP.out 2 _ rfl
  have p3 := row_cellT HRP.out 3 _ rfl
  have p4 := row_cellT HRP.out 4 _ rfl
  have p5 := row_cellT HRP.out 5 _ rfl
  obtain ⟨b0, hb0⟩ : ∃ b, bareF (.mk k n u s keys []) kd 0 0 EMB = b := ⟨_, rfl⟩
  have HB0 := Lib.hid hb0
  clear hb0
  have HRS : Hid (res = (b0 && decide (md = 0) && decide (at_ + (l.length : Int) * wid + 0 ≤ d.length) && decide ((l.length : Int) = many) && true && K0)) := by show _ = _; rw [← HRES.out, ← HB0.out, if_neg HN.out.1, if_neg HN.out.1, HTG.out, if_neg HMN.out]; rfl
  have hnp : NodeAt u3 (.mk k n u s keys []) (.agg #[.int .i64 k, .int .i64 n, .int .u64 u, .string s, .slice a4 keys.length c4, .slice none 0 0]) := ⟨HB.out, _, _, [], rfl, HKS.out.grew HG.out, RowsAt.nil _, rfl⟩
  have hh := bare_any _ _ kd 0 0 ⟨#[]⟩ _ hnp
  rw [show bareF (.mk k n u s keys []) kd 0 0 ⟨#[]⟩ = b0 from HB0.out] at hh
  have HH := Lib.hid hh
  clear hh hnp
  go_wp2_with fail
  refine HH.out.mono ?_
  rintro r u4 ⟨rfl, hgc⟩
  clear c0 c1 c2 c3
  clear e0 e1 e2 e3 e4 e5
  clear p0 p1 p2 p3 p4 p5
  replace HRR := Lib.hid (hgc.heap HRR.out)
  replace HRT := Lib.hid (hgc.heap HRT.out)
  replace HG := Lib.hid (HG.out.trans hgc)
  clear hgc
  have c0 := row_cellT HRR.out 0 _ rfl
  have c1 := row_cellT HRR.out 1 _ rfl
  have c2 := row_cellT HRR.out 2 _ rfl
  have c3 := row_cellT HRR.out 3 _ rfl
  have e0 := row_cellT HRT.out 0 _ rfl
  have e1 := row_cellT HRT.out 1 _ rfl
  have e2 := row_cellT HRT.out 2 _ rfl
  have e3 := row_cellT HRT.out 3 _ rfl
  have e4 := row_cellT HRT.out 4 _ rfl
  have e5 := row_cellT HRT.out 5 _ rfl
  cases b0
  · skip
    have HV : Hid (res = false) := by show _ = _; rw [HRS.out]; simp
    go_wp2_with fail
    go_ret
    exact ⟨by rw [HV.out]; rfl, HG.out⟩
  by_cases hmd0 : md = 0
  rotate_left
  · have hbx : (md != 0) = true := by simpa using hmd0
    have HV : Hid (res = false) := by show _ = _; rw [HRS.out]; simp [hmd0]
    go_wp2_with fail
    go_ret
    exact ⟨by rw [HV.out]; rfl, HG.out⟩
  subst hmd0
  by_cases hend : at_ + (l.length : Int) * wid ≤ d.length
  rotate_left
  · have hgt : (d.length : Int) < at_ + (l.length : Int) * wid := by omega
    have HV : Hid (res = false) := by show _ = _; rw [HRS.out]; simp [hend]
    go_wp2_with fail
    go_ret
    exact ⟨by rw [HV.out]; rfl, HG.out⟩
  by_cases hnm : (l.length : Int) = many
  rotate_left
  · have hbx : ((l.length : Int) != many) = true := by simpa using hnm
    have HV : Hid (res = false) := by show _ = _; rw [HRS.out]; simp [hnm]
    go_wp2_with fail
    go_ret
    exact ⟨by rw [HV.out]; rfl, HG.out⟩
  have hbx : ((l.length : Int) != many) = false := by simpa using hnm
  have HRS2 : Hid (res = K0) := by show _ = _; rw [HRS.out, decide_eq_true hnm]; simp [hend]
  clear hnm
  have hel := Ft.elem_any typ
  obtain ⟨el, hel2⟩ : ∃ e, Ft.elemF typ = e := ⟨_, rfl⟩
  rw [hel2] at hel
  have HEL := Lib.hid hel
  have HEQ := Lib.hid hel2
  clear hel hel2
  obtain ⟨el1, el2, el3⟩ := el
  simp only at HEL
  have HFI : Hid (firstF typ wid at_ = at_) := by show _ = _; unfold firstF; rw [HQ.out]; simp only; rw [if_neg HN.out.1, if_neg HMN.out]
  have HEO : Hid (∀ i : Nat, elemOf d typ wid at_ l.length i = (el1, wid, 0)) := fun i => by unfold elemOf; rw [HQ.out, HEQ.out]; simp only; rw [HTG.out]; rfl
  go_wp2_with fail
  refine (HEL.out _).mono ?_
  rintro r u7 ⟨rfl, hgc⟩
  clear c0 c1 c2 c3
  clear e0 e1 e2 e3 e4 e5
  replace HRR := Lib.hid (hgc.heap HRR.out)
  replace HRT := Lib.hid (hgc.heap HRT.out)
  replace HG := Lib.hid (HG.out.trans hgc)
  clear hgc
  have c0 := row_cellT HRR.out 0 _ rfl
  have c1 := row_cellT HRR.out 1 _ rfl
  have c2 := row_cellT HRR.out 2 _ rfl
  have c3 := row_cellT HRR.out 3 _ rfl
  have e0 := row_cellT HRT.out 0 _ rfl
  have e1 := row_cellT HRT.out 1 _ rfl
  have e2 := row_cellT HRT.out 2 _ rfl
  have e3 := row_cellT HRT.out 3 _ rfl
  have e4 := row_cellT HRT.out 4 _ rfl
  have e5 := row_cellT HRT.out 5 _ rfl
  have HEND : Hid (at_ + (l.length : Int) * wid ≤ d.length) := hend
  go_upto_region 27 with fail
  go_wp2_with fail
  clear c0 c1 c2 c3
  clear e0 e1 e2 e3 e4 e5
  go_loopw [136] (fun i wr => ∃ kk : Nat, kk ≤ l.length ∧ i = .int .i64 kk ∧ Hid (Grew u7 wr ∧ K0 = kidsF d typ wid at_ l.length kk (l.drop kk))) (fun i _ => l.length - (intOf i).toNat)
  case atStart => exact ⟨0, Nat.zero_le _, rfl, by show _ ∧ _; exact ⟨Grew.refl _, by rw [List.drop_zero]; exact HK0.out.symm⟩⟩
  case round =>
    obtain ⟨kk, hkk, rfl, HL⟩ := hrel
    have HGW := Lib.hid (HG.out.trans HL.out.1)
    by_cases hlt : kk < l.length
    rotate_left
    · have ek : kk = l.length := by omega
      have HV : Hid (res = true) := by show _ = _; rw [HRS2.out, HL.out.2, ek, List.drop_length]; rfl
      subst ek
      clear hlt
      go_wp2_with fail
      go_ret
      exact ⟨by rw [HV.out]; rfl, HGW.out⟩
    obtain ⟨x, hx⟩ : ∃ x, l[kk]? = some x := ⟨_, List.getElem?_eq_getElem hlt⟩
    obtain ⟨xv, hxv, hnx⟩ := HKD.out.get hx
    have hxm : x ∈ l := List.mem_of_getElem? hx
    have HDR : Hid (l.drop kk = x :: l.drop (kk + 1)) := by show _ = _; rw [List.drop_eq_getElem_cons hlt]; congr 1; rw [List.getElem?_eq_getElem hlt] at hx; injection hx
    obtain ⟨b, off, rfl, hc6⟩ : ∃ b off, a5 = some ⟨b, off, none⟩ ∧ Cells6 wr b (off + kk * 6) xv := by
      obtain ⟨a, c, e, _, _, _, h⟩ := HRL.out
      injection e with e1 e2 e3
      subst e1
      obtain ⟨b, off, e, h6⟩ := h kk xv hxv
      exact ⟨b, off, e, h6.grew HGW.out⟩
    obtain ⟨xk, xn, xu, xs, xa4, xn4, xc4, xa5, xn5, xc5, rfl⟩ := hnx.node6
    obtain ⟨f0, f1, f2, f3, f4, f5⟩ := hc6.get
    have HNX := Lib.hid (hnx.grew HGW.out)
    have hlti : (kk : Int) < l.length := by omega
    have hkw : 0 ≤ (kk : Int) * wid ∧ (kk : Int) * wid ≤ 32768 := by
      refine ⟨Int.mul_nonneg (by omega) (by omega), ?_⟩
      have h1 := Int.mul_le_mul (show (kk : Int) ≤ 4096 by omega) hw1.2 (by omega) (by omega)
      omega
    have hwk : IntKind.i64.wrap ((kk : Int) * wid) = (kk : Int) * wid := by rw [IntKind.wrap_i64]; omega
    have hwk2 : IntKind.i64.wrap (at_ + (kk : Int) * wid) = at_ + (kk : Int) * wid := by rw [IntKind.wrap_i64]; omega
    have HSX := Lib.hid (HHK.out x hxm)
    clear hc6 hx hxv hnx hxm
    have hga := ((Grew.refl wr).alloc (.cells #[.int .i64 xk, .int .i64 xn, .int .u64 xu, .string xs, .slice xa4 xn4 xc4, .slice xa5 xn5 xc5] 27)).alloc (.cells #[.int .i64 (at_ + (kk : Int) * wid), .int .i64 wid, .int .i64 el1, .int .i64 wid] 35)
    have hsay := HSX.out el1 (.inr (.inr (by rw [HEQ.out]))) (.slice da d.length dc) (at_ + (kk : Int) * wid) wid wid (at_) _ _ (HD.out.grew (HGW.out.trans hga)) (HNX.out.grew hga) (by unfold i64ok; omega)
    obtain ⟨sB, hsB⟩ : ∃ b, saysF d el1 (at_ + (kk : Int) * wid) wid wid (at_) x = b := ⟨_, rfl⟩
    rw [hsB] at hsay
    have HKX : Hid (K0 = (sB && kidsF d typ wid at_ l.length (kk + 1) (l.drop (kk + 1)))) := by show _ = _; rw [HL.out.2, HDR.out, kidsF, HEO.out]; simp only; rw [HFI.out, hsB]; rfl
    have HSAY := Lib.hid hsay
    have HGA := Lib.hid hga
    clear hsay hsB hga
    go_wp2_with fail
    refine HSAY.out.mono ?_
    rintro r y5 ⟨rfl, hg6⟩
    have HG6 := Lib.hid (HGA.out.trans hg6)
    clear hg6 f0 f1 f2 f3 f4 f5
    cases sB
    · have HV : Hid (res = false) := by show _ = _; rw [HRS2.out, HKX.out]; rfl
      have HGF := Lib.hid (HGW.out.trans HG6.out)
      go_wp2_with fail
      go_ret
      exact ⟨by rw [HV.out]; rfl, HGF.out⟩
    · go_wp2_with fail
      go_roundw
      case rel => exact ⟨kk + 1, by omega, by go_num, by
        show _ ∧ _
        exact ⟨HL.out.1.trans HG6.out, by rw [HKX.out]; rfl⟩⟩
      case measure => simp [intOf]; omega
end Go.Proofs.Ytlhliolknaopjaa

/-
  Denote: list, where says and keys are given. Conditions: the bytes, the tree lie in memory; the tree is small.
-/
namespace Go.Proofs.Ytlhliolknaopjaa
open Go Go.ChangeShapes Go.WideShapes Go.ChangeAt Go.RowKit Go.Joins Go.Deep
set_option linter.unusedVariables false
set_option linter.unusedSimpArgs false

theorem list_walk (d : List UInt8) (typ k n u : Int) (s : ByteArray) (keys : List ByteArray) (l : List Tr) (hl : l.length ≤ 4096) (hkl4 : keys.length ≤ 4096) (hkids : ∀ x ∈ l, ∀ typ', ((shapeF typ).1 = 10 ∨ (shapeF typ).1 = 17 ∨ typ' = (Ft.elemF typ).1) → SaysOn d typ' x) (hkeys : (shapeF typ).1 = 17 → KeysOn d keys) : ListOn d typ (.mk k n u s keys l) := by
  by_cases h17 : (shapeF typ).1 = 17
  · exact list_walkA d typ k n u s keys l hl hkl4 hkids hkeys h17
  by_cases h10 : (shapeF typ).1 = 10
  · exact list_walkB d typ k n u s keys l hl hkl4 hkids hkeys h10
  by_cases hm : (shapeF typ).2 = 0
  · exact list_walkC d typ k n u s keys l hl hkl4 hkids hkeys ⟨⟨h17, h10⟩, hm⟩
  · exact list_walkD d typ k n u s keys l hl hkl4 hkids hkeys ⟨⟨h17, h10⟩, hm⟩
end Go.Proofs.Ytlhliolknaopjaa

/-
  Denote: keys, and the whole. Conditions: the bytes, the tree lie in memory; the tree is small.
-/
namespace Go.Proofs.Ytlhliolknaopjaa
open Go Go.ChangeShapes Go.WideShapes Go.ChangeAt Go.RowKit Go.Joins Go.Deep
set_option linter.unusedVariables false
set_option linter.unusedSimpArgs false

def keyTr (k : ByteArray) : Tr := .mk 5 0 0 k [] []
def nameTr (l : List ByteArray) : Tr := .mk 13 0 0 ⟨#[]⟩ [] (l.map keyTr)
theorem shape14 : shapeF 14 = (13, 0) := by decide +kernel
theorem elem14 : (Ft.elemF 14).1 = 4 := by decide +kernel
theorem kids_names (d : List UInt8) (w at_ n : Int) (hw : isW w = true) : ∀ (l : List ByteArray) (i : Nat), kidsF d 14 w at_ n i (l.map keyTr) = nameKids d w at_ i l
  | [], i => rfl
  | k :: r, i => by
    have he : elemOf d 14 w at_ n i = (4, w, 0) := by unfold elemOf; rw [shape14, elem14]; rfl
    have hf : firstF 14 w at_ = at_ - w := by unfold firstF; rw [shape14]; rfl
    simp only [List.map_cons, kidsF, nameKids]
    rw [he, hf, kids_names d w at_ n hw r (i + 1)]
    simp only
    have hs : saysF d 4 (at_ + i * w) w w (at_ - w) (keyTr k) = keySays d (at_ + i * w) w (at_ - w) k := by
      unfold keyTr
      rw [says_eq, hw]
      have h1 : Ft.legalB 4 = true := by decide +kernel
      have h2 : Ft.inlineB 4 = false := by decide +kernel
      have h3 : farT 4 = true := by decide
      rw [h1, h2, h3]
      unfold keySays lookF keyF bareF
      simp only [Tr.kind, Tr.fn, Tr.fu, Tr.fs, Tr.keys, Tr.kids]
      cases hf : farB d 4 (at_ + i * w) w w (at_ - w) <;> simp [EMB] <;> (try rfl)
    rw [hs]; simp
theorem names_list (d : List UInt8) (w at_ : Int) (l : List ByteArray) (hw : isW w = true) : listF d 14 w at_ (nameTr l) = namesF d w at_ l := by
  unfold nameTr
  rw [list_form shape14]
  unfold namesF bareF
  simp only [Tr.kind, Tr.fn, Tr.fu, Tr.fs, Tr.keys, Tr.kids, List.length_map]
  rw [kids_names d w at_ _ hw]
  simp [taggedB, EMB, Bool.and_assoc]
theorem inc_take (l : List ByteArray) (j : Nat) (a b : ByteArray) (ha : l[j]? = some a) (hb : l[j + 1]? = some b) (hlt : ltS a b = false) : incB l = false := by
  induction l generalizing j with
  | nil => simp at ha
  | cons x r ih =>
    cases r with
    | nil => simp at hb
    | cons y q =>
      cases j with
      | zero => simp at ha hb; subst ha hb; simp [incB, hlt]
      | succ j => simp only [incB]; rw [ih j (by simpa using ha) (by simpa using hb)]; simp
theorem inc_all (l : List ByteArray) (h : ∀ j a b, l[j]? = some a → l[j + 1]? = some b → ltS a b = true) : incB l = true := by
  induction l with
  | nil => rfl
  | cons x r ih =>
    cases r with
    | nil => rfl
    | cons y q =>
      simp only [incB]
      rw [h 0 x y rfl rfl, ih fun j a b ha hb => h (j + 1) a b (by simpa using ha) (by simpa using hb)]; rfl
set_option maxRecDepth 100000 in
set_option maxHeartbeats 4000000 in
theorem keys_walk (d : List UInt8) (l : List ByteArray) (hl : l.length ≤ 4096) (hlist : ListOn d 14 (nameTr l)) : KeysOn d l := by
  intro dv first x kv w hD hks hf hw
  have HD := Lib.hid hD
  have HKS := Lib.hid hks
  have hdl := hD.2.1
  obtain ⟨da, dc, rfl, hdc⟩ := hD.form
  obtain ⟨a4, c4, rfl, hk1, hk2, hk3⟩ := hks
  have HW := Lib.hid hw
  clear hD hk1 hk2 hk3
  have hw1 : 1 ≤ x ∧ x ≤ 8 := by rcases isW_cases hw with rfl | rfl | rfl | rfl <;> omega
  have HG := Lib.hid (Grew.refl w)
  have hwa : IntKind.i64.wrap (first + x) = first + x := by rw [IntKind.wrap_i64]; omega
  obtain ⟨res, hres⟩ : ∃ b, keysF d first x l = b := ⟨_, rfl⟩
  rw [hres]
  have HRES := Lib.hid hres
  clear hres
  unfold keysF at HRES
  have hn1 := dnum_any d (.slice da d.length dc) first x
  have hn2 := dnum_any d (.slice da d.length dc) (first + x) x
  have hp1 := num_bound d first x hdl
  have hp2 : 0 ≤ (numF d (first + x) x).1 ∧ (numF d (first + x) x).1 ≤ 9007199254740992 := by have := loadF_pos d (first + x) x; unfold numF; simp only; omega
  have hp3 : 0 ≤ (numF d first x).1 ∧ (numF d first x).1 ≤ 9007199254740992 := by have := loadF_pos d first x; unfold numF; simp only; omega
  generalize numF d first x = q1 at *
  generalize numF d (first + x) x = q2 at *
  obtain ⟨off, is_⟩ := q1
  obtain ⟨wide, so⟩ := q2
  simp only at hn1 hn2 hp1 hp2 hp3 HRES
  have HN1 := Lib.hid hn1
  have HN2 := Lib.hid hn2
  clear hn1 hn2 hp1
  go_enter Try.func82, Try.ntmps82
  go_wp2_with fail
  refine (HN1.out w (HD.out) (by unfold i64ok; omega)).mono ?_
  rintro r u1 ⟨rfl, hgc⟩
  replace HG := Lib.hid (HG.out.trans hgc)
  clear hgc
  go_wp2_with fail
  refine (HN2.out u1 (HD.out.grew HG.out) (by unfold i64ok; omega)).mono ?_
  rintro r u2 ⟨rfl, hgc⟩
  replace HG := Lib.hid (HG.out.trans hgc)
  clear hgc
  go_wp2_with fail
  refine (code_any wide u2).mono ?_
  rintro r w1 ⟨⟨cw, rfl⟩, e⟩
  rw [e]
  clear e w1
  cases is_
  · skip
    have HV : Hid (res = false) := by show _ = _; rw [← HRES.out]; simp
    go_wp2_with fail
    go_ret
    exact ⟨by rw [HV.out]; rfl, HG.out⟩
  cases so
  · skip
    have HV : Hid (res = false) := by show _ = _; rw [← HRES.out]; simp
    go_wp2_with fail
    go_ret
    exact ⟨by rw [HV.out]; rfl, HG.out⟩
  by_cases hww : isW wide = true
  rotate_left
  · have hce : (codeE wide != 0) = true := by unfold codeE; rw [if_neg hww]; decide
    have HV : Hid (res = false) := by show _ = _; rw [← HRES.out]; simp [hww]
    go_wp2_with fail
    go_ret
    exact ⟨by rw [HV.out]; rfl, HG.out⟩
  have hce : codeE wide = 0 := by unfold codeE; rw [if_pos hww]
  rw [hce]
  clear hce
  by_cases hle : off ≤ first
  rotate_left
  · have hgt : first < off := by omega
    have HV : Hid (res = false) := by show _ = _; rw [← HRES.out]; simp [hle]
    go_wp2_with fail
    go_ret
    exact ⟨by rw [HV.out]; rfl, HG.out⟩
  have hwb : IntKind.i64.wrap (first - off) = first - off := by rw [IntKind.wrap_i64]; omega
  have hwc : IntKind.i64.wrap (first - off - wide) = first - off - wide := by rw [IntKind.wrap_i64]; omega
  by_cases hlt : first - off - wide < first
  rotate_left
  · have hge : first ≤ first - off - wide := by omega
    have HV : Hid (res = false) := by show _ = _; rw [← HRES.out]; simp [show ¬ first - off - wide < first from hlt]
    go_wp2_with fail
    go_ret
    exact ⟨by rw [HV.out]; rfl, HG.out⟩
  have HRS : Hid (res = (incB l && namesF d wide (first - off) l)) := by show _ = _; rw [← HRES.out, hww, decide_eq_true hle, decide_eq_true hlt]; simp
  have HWW := Lib.hid hww
  have HAT : Hid (0 ≤ first - off ∧ first - off ≤ 1048576) := ⟨by omega, by omega⟩
  have hnge : ¬ first ≤ first - off - wide := by omega
  have hdge : decide (first ≤ first - off - wide) = false := decide_eq_false hnge
  clear hww
  go_wp2_with fail
  go_loopw [16, 69] (fun v i wr => ∃ kk : Nat, kk ≤ l.length ∧ i = .int .i64 kk ∧ Hid (Grow (fun _ => False) u2 wr v ((l.take kk).map keyTr) ∧ ∀ j a b, j + 1 < kk → l[j]? = some a → l[j + 1]? = some b → ltS a b = true)) (fun _ i _ => l.length - (intOf i).toNat)
  case atStart => exact ⟨0, Nat.zero_le _, rfl, by show _ ∧ _; exact ⟨Grow.start _ _, fun j a b h => by omega⟩⟩
  case round =>
    obtain ⟨kk, hkk, rfl, HL⟩ := hrel
    have hgw : Grew u2 wr := by obtain ⟨_, _, _, _, _, hm⟩ := HL.out.1; exact Moved.fresh (Grew.refl _) hm (fun g h => h.elim)
    have HGW := Lib.hid (HG.out.trans hgw)
    have HGU := Lib.hid hgw
    clear hgw
    obtain ⟨ga, gc, hfm, hz1, hz2, hz3⟩ := HL.out.1.form
    rw [List.length_map, List.length_take, Nat.min_eq_left hkk] at hfm hz1
    subst hfm
    by_cases hlt2 : kk < l.length
    rotate_left
    · have ek : kk = l.length := by omega
      have HINC : Hid (incB l = true) := inc_all l (fun j a b ha hb => HL.out.2 j a b (by have := (List.getElem?_eq_some_iff.1 hb).1; omega) ha hb)
      have HTR := HL.out.1
      rw [ek, List.take_length] at HTR
      subst ek
      have hnode : NodeAt wr (nameTr l) (.agg #[.int .i64 13, .int .i64 0, .int .u64 0, .string ⟨#[]⟩, .slice none 0 0, .slice ga l.length gc]) := by
        obtain ⟨vs4, S4, q1, q2, q3, q4⟩ := HTR
        exact ⟨⟨by unfold i64ok; omega, by unfold i64ok; omega, by unfold u64ok; omega, by unfold lenok; decide⟩, _, _, vs4, rfl, StrsAt.nil _, q1.rows, q2.kids⟩
      have hcall := hlist (.slice da d.length dc) 0 0 wide (first - off) _ wr (HD.out.grew HGW.out) hnode HAT.out HWW.out
      rw [names_list d wide (first - off) l HWW.out] at hcall
      obtain ⟨nb, hnb⟩ : ∃ b, namesF d wide (first - off) l = b := ⟨_, rfl⟩
      rw [hnb] at hcall
      have HV : Hid (res = nb) := by show _ = _; rw [HRS.out, HINC.out, hnb]; rfl
      have HC := Lib.hid hcall
      clear hcall hnode hnb HTR hz1 hz2 hz3 hlt2 hlt
      go_wp2_with fail
      refine HC.out.mono ?_
      rintro r u5 ⟨rfl, hg5⟩
      have HG5 := Lib.hid (HGW.out.trans hg5)
      clear hg5
      go_wp2_with fail
      go_ret
      exact ⟨by rw [HV.out]; rfl, HG5.out⟩
    obtain ⟨y, hy⟩ : ∃ y, l[kk]? = some y := ⟨_, List.getElem?_eq_getElem hlt2⟩
    obtain ⟨_, _, ee, hlc4, hlk4, _, hcell⟩ := HKS.out
    cases ee
    obtain ⟨hyz, b1, o1, e2, hc⟩ := hcell kk y hy
    subst e2
    have cy := HGW.out.cell hc
    have HY := Lib.hid hy
    have hlti : (kk : Int) < l.length := by omega
    have HTK := Lib.hid (show (l.take kk).map keyTr ++ [keyTr y] = (l.take (kk + 1)).map keyTr by rw [List.take_add_one, hy]; simp)
    by_cases hk0 : kk = 0
    · have hdg : decide (0 < kk) = false := decide_eq_false (by omega)
      have hdg2 : ¬ 0 < kk := by omega
      have hdi : ¬ (0 : Int) < (kk : Int) := by omega
      have HK0 := Lib.hid hk0
      clear hk0
      obtain ⟨vs4, S4, q1, q2, q3, q4⟩ := HL.out.1
      have HV4 : Hid (vs4.length = kk) := by show _ = _; rw [q2.length, List.length_map, List.length_take]; omega
      have HQ1 := Lib.hid q1
      have HQ2 := Lib.hid q2
      have HQ3 := Lib.hid q3
      have HQ4 := Lib.hid q4
      have HON : Hid (∀ o, OwnN (wr.alloc o) u2.heap.size (.slice ga kk gc) vs4) := fun o => q1.grew ((Grew.refl _).alloc o)
      have HSZ4 : Hid (∀ o, u2.heap.size ≤ (wr.alloc o).heap.size) := fun o => Nat.le_trans HGU.out.size ((Grew.refl wr).alloc o).size
      have HOX : Hid (OwnT wr wr.heap.size (keyTr y) (.agg #[.int .i64 5, .int .i64 0, .int .u64 0, .string y, .slice none 0 0, .slice none 0 0]) (Fresh wr wr)) := by
        refine OwnT.mono (S := fun _ => False) ?_ (fun _ h => h.elim)
        exact ⟨⟨by unfold i64ok; omega, by unfold i64ok; omega, by unfold u64ok; omega, hyz, by simp⟩, _, _, [], fun _ => False, rfl, OwnS.nil _ _, OwnN.nil _ _, fun g h => (by cases h), fun g h => (by cases h), fun g h => (by cases h), fun g h => h, rfl⟩
      clear q1 q2 q3 q4 hz1 hz2 hz3 hcell hc hy
      go_wp2_with (at_builtin; refine wpList_appendN rfl _ _ rfl u2.heap.size _ vs4 rfl (HON.out _) _ _ (.agg #[.int .i64 5, .int .i64 0, .int .u64 0, .string y, .slice none 0 0, .slice none 0 0]) rfl (heap_alloc_new _ _) ⟨_, _, _, _, _, _, _, _, _, _, rfl⟩ (by have := HV4.out; omega) (HSZ4.out _) ?_; intro v' w5 hown hgr hnx; obtain ⟨va2, vc2, hv5, hz1, hz2, hz3⟩ := rows_form hown.1; subst hv5; have HG5 := Lib.hid (Grow.step (x := keyTr y) (fun _ h => h.elim) vs4 S4 HQ2.out HQ1.out HQ3.out HQ4.out HOX.out (Moved.refl _ wr) _ hown hgr hnx); clear hown hgr hnx hz1 hz2 hz3)
      go_roundw
      case rel =>
        refine ⟨kk + 1, by omega, by go_num, ?_⟩
        show _ ∧ _
        refine ⟨by rw [← HTK.out]; have hh := HG5.out; rw [List.length_append] at hh; exact hh, fun j a b hj ha hb => ?_⟩
        by_cases hjk : j + 1 < kk
        · exact HL.out.2 j a b hjk ha hb
        · exact absurd HK0.out (by omega)
      case measure => simp [intOf]; omega
    obtain ⟨j, rfl⟩ : ∃ j, kk = j + 1 := ⟨kk - 1, by omega⟩
    obtain ⟨z, hzz⟩ : ∃ z, l[j]? = some z := ⟨_, List.getElem?_eq_getElem (by omega)⟩
    obtain ⟨_, b2, o2, e3, hc2⟩ := hcell j z hzz
    cases e3
    have cz := HGW.out.cell hc2
    have hwj : IntKind.i64.wrap ((j : Int) + 1 - 1) = j := by rw [IntKind.wrap_i64]; omega
    have hjl : (j : Int) < l.length := by omega
    have HZ := Lib.hid hzz
    have HKL := Lib.hid (kless_any z y wr)
    obtain ⟨lt, hltq⟩ : ∃ b, ltS z y = b := ⟨_, rfl⟩
    rw [hltq] at HKL
    have HLT := Lib.hid hltq
    clear hltq hzz hc2
    go_wp2_with fail
    refine HKL.out.mono ?_
    rintro r w9 ⟨rfl, e9⟩
    rw [← e9]
    clear e9 w9
    cases lt
    · have HV : Hid (res = false) := by show _ = _; rw [HRS.out, inc_take l j z y HZ.out HY.out HLT.out]; rfl
      go_wp2_with fail
      go_ret
      exact ⟨by rw [HV.out]; rfl, HGW.out⟩
    skip
    obtain ⟨vs4, S4, q1, q2, q3, q4⟩ := HL.out.1
    have HV4 : Hid (vs4.length = (j + 1)) := by show _ = _; rw [q2.length, List.length_map, List.length_take]; omega
    have HQ1 := Lib.hid q1
    have HQ2 := Lib.hid q2
    have HQ3 := Lib.hid q3
    have HQ4 := Lib.hid q4
    have HON : Hid (∀ o, OwnN (wr.alloc o) u2.heap.size (.slice ga (j + 1) gc) vs4) := fun o => q1.grew ((Grew.refl _).alloc o)
    have HSZ4 : Hid (∀ o, u2.heap.size ≤ (wr.alloc o).heap.size) := fun o => Nat.le_trans HGU.out.size ((Grew.refl wr).alloc o).size
    have HOX : Hid (OwnT wr wr.heap.size (keyTr y) (.agg #[.int .i64 5, .int .i64 0, .int .u64 0, .string y, .slice none 0 0, .slice none 0 0]) (Fresh wr wr)) := by
      refine OwnT.mono (S := fun _ => False) ?_ (fun _ h => h.elim)
      exact ⟨⟨by unfold i64ok; omega, by unfold i64ok; omega, by unfold u64ok; omega, hyz, by simp⟩, _, _, [], fun _ => False, rfl, OwnS.nil _ _, OwnN.nil _ _, fun g h => (by cases h), fun g h => (by cases h), fun g h => (by cases h), fun g h => h, rfl⟩
    clear q1 q2 q3 q4 hz1 hz2 hz3 hcell hc hy
    go_wp2_with (at_builtin; refine wpList_appendN rfl _ _ rfl u2.heap.size _ vs4 rfl (HON.out _) _ _ (.agg #[.int .i64 5, .int .i64 0, .int .u64 0, .string y, .slice none 0 0, .slice none 0 0]) rfl (heap_alloc_new _ _) ⟨_, _, _, _, _, _, _, _, _, _, rfl⟩ (by have := HV4.out; omega) (HSZ4.out _) ?_; intro v' w5 hown hgr hnx; obtain ⟨va2, vc2, hv5, hz1, hz2, hz3⟩ := rows_form hown.1; subst hv5; have HG5 := Lib.hid (Grow.step (x := keyTr y) (fun _ h => h.elim) vs4 S4 HQ2.out HQ1.out HQ3.out HQ4.out HOX.out (Moved.refl _ wr) _ hown hgr hnx); clear hown hgr hnx hz1 hz2 hz3)
    go_roundw
    case rel =>
      refine ⟨j + 1 + 1, by omega, by go_num, ?_⟩
      show _ ∧ _
      refine ⟨by rw [← HTK.out]; have hh := HG5.out; rw [List.length_append] at hh; exact hh, fun j2 a b hj ha hb => ?_⟩
      by_cases hjk : j2 + 1 < (j + 1)
      · exact HL.out.2 j2 a b hjk ha hb
      · have e : j2 = j := by omega
        subst e
        have h1 := HZ.out
        have h2 := HY.out
        rw [ha] at h1; rw [hb] at h2
        injection h1 with h1; injection h2 with h2
        subst h1; subst h2; exact HLT.out
    case measure => simp [intOf]; omega
theorem names_any (d : List UInt8) (l : List ByteArray) (hl : l.length ≤ 4096) (hs : ∀ x ∈ l, x.size ≤ 1000) : ListOn d 14 (nameTr l) := by
  unfold nameTr
  refine list_walk d 14 13 0 0 ⟨#[]⟩ [] (l.map keyTr) (by simpa using hl) (by simp) (fun x hx typ' ht => ?_) (fun h => ?_)
  · obtain ⟨k, hk, rfl⟩ := List.mem_map.1 hx
    rw [shape14, elem14] at ht
    have h4 : typ' = 4 := by rcases ht with h | h | h <;> first | exact h | (simp at h)
    subst h4
    intro dv pos par wid lim tv w hD hn hp
    exact says_any d 4 (keyTr k) (fun _ h => absurd h (by decide)) (hs k hk) dv pos par wid lim tv w hD hn hp
  · rw [shape14] at h; cases h
theorem keys_any (d : List UInt8) (l : List ByteArray) (hl : l.length ≤ 4096) (hs : ∀ x ∈ l, x.size ≤ 1000) : KeysOn d l := keys_walk d l hl (names_any d l hl hs)
theorem okS_eq (k n u : Int) (s : ByteArray) (keys : List ByteArray) (l : List Tr) : okS (.mk k n u s keys l) ↔ s.size ≤ 1000 ∧ (∀ x ∈ keys, x.size ≤ 1000) ∧ keys.length ≤ 4096 ∧ l.length ≤ 4096 ∧ ∀ x, x ∈ l → okS x := by rw [okS]
theorem list_all (d : List UInt8) : ∀ (m : Nat) (t : Tr), t.size ≤ m → okS t → ∀ typ, ListOn d typ t := by
  intro m
  induction m with
  | zero => intro t h; have := t.size_pos; omega
  | succ m ih =>
    intro t h ho typ
    obtain ⟨k, n, u, s, keys, l⟩ := t
    rw [okS_eq] at ho
    obtain ⟨h1, h2, h3, h4, h5⟩ := ho
    refine list_walk d typ k n u s keys l h4 h3 (fun x hx typ' _ => ?_) (fun _ => keys_any d keys h3 h2)
    have hsz := size_mem hx
    simp only [Tr.size] at h
    have hx5 := h5 x hx
    intro dv pos par wid lim tv w hD hn hp
    refine says_any d typ' x (fun _ _ => ih x (by omega) hx5 typ') ?_ dv pos par wid lim tv w hD hn hp
    obtain ⟨xk, xn, xu, xs, xkeys, xl⟩ := x
    rw [okS_eq] at hx5
    exact hx5.1
/-- **says, whatever the reference and the tree.** -/
theorem says_all (d : List UInt8) (typ : Int) (t : Tr) (ho : okS t) : SaysOn d typ t := by
  intro dv pos par wid lim tv w hD hn hp
  refine says_any d typ t (fun _ _ => list_all d t.size t (Nat.le_refl _) ho typ) ?_ dv pos par wid lim tv w hD hn hp
  obtain ⟨xk, xn, xu, xs, xkeys, xl⟩ := t
  rw [okS_eq] at ho
  exact ho.1
end Go.Proofs.Ytlhliolknaopjaa

/-
  Denote: At, Holds. Conditions: the bytes, the tree lie in memory; the tree is small.
-/
namespace Go.Proofs.Ytlhliolknaopjaa
open Go Go.ChangeShapes Go.WideShapes Go.ChangeAt Go.RowKit Go.Joins Go.Deep
set_option linter.unusedVariables false
set_option linter.unusedSimpArgs false

def lastB (d : List UInt8) (k : Nat) : Int := (((d[d.length - k]?).getD 0).toNat : Int)
/-- Holds. -/
def holdsF (d : List UInt8) (t : Tr) : Bool :=
  decide (3 ≤ d.length) && (decide ((Ft.unpackF ((d[d.length - 2]?).getD 0).toNat).2.2 = 0) && isW (lastB d 1) && decide (0 ≤ (d.length : Int) - 2 - lastB d 1) && decide (((d.length : Int) - 2 - lastB d 1) % lastB d 1 = 0) &&
    saysF d (Ft.unpackF ((d[d.length - 2]?).getD 0).toNat).1 ((d.length : Int) - 2 - lastB d 1) (lastB d 1) (Ft.unpackF ((d[d.length - 2]?).getD 0).toNat).2.1 ((d.length : Int) - 2 - lastB d 1) t)
theorem doc_own {w : World} {B : Nat} {v : Value} {l : List UInt8} (h : w.ownsRow B 5 1 v l.length (Lib.byteCells l)) (hl : l.length ≤ 1048576) : DocAt w v l := by
  refine ⟨BytesAt.of_own h, hl, fun ad n c e => ?_⟩
  rcases h.2 with ⟨h1, _⟩ | ⟨g, cap, cur, h1, _, h2, _⟩
  · rw [h1] at e; cases e
  · rw [h1] at e; cases e
    exact ⟨(Array.getElem?_eq_some_iff.1 h2).1, g, 0, rfl⟩
set_option maxRecDepth 100000 in
set_option maxHeartbeats 4000000 in
theorem At_any (d : List UInt8) (dv : Value) (pos par typ wid : Int) (t : Tr) (ho : okS t) (tv : Value) (w : World) (hD : DocAt w dv d) (hn : NodeAt w t tv) (hp : i64ok pos) : Calls Try.prog 15 #[dv, .agg #[.int .i64 pos, .int .i64 par, .int .i64 typ, .int .i64 wid], tv] w fun r w' => r = .returned (.bool (saysF d typ pos par wid pos t)) ∧ Grew w w' := by
  have HD := Lib.hid hD
  have HT := Lib.hid hn
  obtain ⟨da, dc, rfl, _⟩ := hD.form
  obtain ⟨tk, tn, tu, ts, ta4, tn4, tc4, ta5, tn5, tc5, rfl⟩ := hn.node6
  clear hD hn
  have HG := Lib.hid (Grew.refl w)
  obtain ⟨res, hres⟩ : ∃ b, saysF d typ pos par wid pos t = b := ⟨_, rfl⟩
  have hs := says_all d typ t ho (.slice da d.length dc) pos par wid pos (.agg #[.int .i64 tk, .int .i64 tn, .int .u64 tu, .string ts, .slice ta4 tn4 tc4, .slice ta5 tn5 tc5])
  rw [hres] at hs ⊢
  have HS := Lib.hid hs
  clear hs hres
  go_enter Try.func15, Try.ntmps15
  go_upto_region 1 with fail
  obtain ⟨pr, hpr⟩ : ∃ N, w.heap.size = N := ⟨_, rfl⟩
  have hr1 := heap_alloc_new w (.cells #[.int .i64 pos, .int .i64 par, .int .i64 typ, .int .i64 wid] 35)
  have hga := (Grew.refl w).alloc (.cells #[.int .i64 pos, .int .i64 par, .int .i64 typ, .int .i64 wid] 35)
  have hz1 : (w.alloc (.cells #[.int .i64 pos, .int .i64 par, .int .i64 typ, .int .i64 wid] 35)).heap.size = pr + 1 := by rw [World.size_alloc, hpr]
  generalize (w.alloc (.cells #[.int .i64 pos, .int .i64 par, .int .i64 typ, .int .i64 wid] 35)) = x1 at *
  rw [hpr] at hr1
  try rw [hpr]
  have HRR := Lib.hid hr1
  clear hr1 hpr
  replace HD := Lib.hid (DocAt.grew HD.out hga)
  replace HT := Lib.hid (NodeAt.grew hga HT.out)
  replace HG := Lib.hid (HG.out.trans hga)
  clear hga
  have hr2 := heap_alloc_new x1 (.cells #[.int .i64 tk, .int .i64 tn, .int .u64 tu, .string ts, .slice ta4 tn4 tc4, .slice ta5 tn5 tc5] 27)
  have hga := (Grew.refl x1).alloc (.cells #[.int .i64 tk, .int .i64 tn, .int .u64 tu, .string ts, .slice ta4 tn4 tc4, .slice ta5 tn5 tc5] 27)
  generalize (x1.alloc (.cells #[.int .i64 tk, .int .i64 tn, .int .u64 tu, .string ts, .slice ta4 tn4 tc4, .slice ta5 tn5 tc5] 27)) = x2 at *
  rw [hz1] at hr2
  try rw [hz1]
  have HRT := Lib.hid hr2
  clear hr2 hz1
  replace HD := Lib.hid (DocAt.grew HD.out hga)
  replace HT := Lib.hid (NodeAt.grew hga HT.out)
  replace HRR := Lib.hid (hga.heap HRR.out)
  replace HG := Lib.hid (HG.out.trans hga)
  clear hga
  have c0 := row_cellT HRR.out 0 _ rfl
  have c1 := row_cellT HRR.out 1 _ rfl
  have c2 := row_cellT HRR.out 2 _ rfl
  have c3 := row_cellT HRR.out 3 _ rfl
  have e0 := row_cellT HRT.out 0 _ rfl
  have e1 := row_cellT HRT.out 1 _ rfl
  have e2 := row_cellT HRT.out 2 _ rfl
  have e3 := row_cellT HRT.out 3 _ rfl
  have e4 := row_cellT HRT.out 4 _ rfl
  have e5 := row_cellT HRT.out 5 _ rfl
  go_wp2_with fail
  refine (HS.out _ HD.out HT.out hp).mono ?_
  rintro r u1 ⟨rfl, hgc⟩
  replace HD := Lib.hid (DocAt.grew HD.out hgc)
  replace HT := Lib.hid (NodeAt.grew hgc HT.out)
  replace HRR := Lib.hid (hgc.heap HRR.out)
  replace HRT := Lib.hid (hgc.heap HRT.out)
  replace HG := Lib.hid (HG.out.trans hgc)
  clear hgc
  clear c0 c1 c2 c3
  clear e0 e1 e2 e3 e4 e5
  go_wp2_with fail
  go_ret
  exact ⟨rfl, HG.out⟩
set_option maxRecDepth 100000 in
set_option maxHeartbeats 4000000 in
theorem Holds_any (d : List UInt8) (dv : Value) (t : Tr) (ho : okS t) (tv : Value) (w : World) (hD : DocAt w dv d) (hn : NodeAt w t tv) : Calls Try.prog 10 #[dv, tv] w fun r w' => r = .returned (.bool (holdsF d t)) ∧ Grew w w' := by
  have HD := Lib.hid hD
  have HT := Lib.hid hn
  have hdl := hD.2.1
  obtain ⟨da, dc, rfl, hdc⟩ := hD.form
  obtain ⟨tk, tn, tu, ts, ta4, tn4, tc4, ta5, tn5, tc5, rfl⟩ := hn.node6
  clear hD hn
  have HG := Lib.hid (Grew.refl w)
  obtain ⟨res, hres⟩ : ∃ b, holdsF d t = b := ⟨_, rfl⟩
  rw [hres]
  have HRES := Lib.hid hres
  clear hres
  unfold holdsF at HRES
  go_enter Try.func10, Try.ntmps10
  go_upto_region 1 with fail
  obtain ⟨pr, hpr⟩ : ∃ N, w.heap.size = N := ⟨_, rfl⟩
  have hr1 := heap_alloc_new w (.cells #[.int .i64 tk, .int .i64 tn, .int .u64 tu, .string ts, .slice ta4 tn4 tc4, .slice ta5 tn5 tc5] 27)
  have hga := (Grew.refl w).alloc (.cells #[.int .i64 tk, .int .i64 tn, .int .u64 tu, .string ts, .slice ta4 tn4 tc4, .slice ta5 tn5 tc5] 27)
  have hz1 : (w.alloc (.cells #[.int .i64 tk, .int .i64 tn, .int .u64 tu, .string ts, .slice ta4 tn4 tc4, .slice ta5 tn5 tc5] 27)).heap.size = pr + 1 := by rw [World.size_alloc, hpr]
  generalize (w.alloc (.cells #[.int .i64 tk, .int .i64 tn, .int .u64 tu, .string ts, .slice ta4 tn4 tc4, .slice ta5 tn5 tc5] 27)) = x1 at *
  rw [hpr] at hr1
  try rw [hpr]
  have HRT := Lib.hid hr1
  clear hr1 hpr
  replace HD := Lib.hid (DocAt.grew HD.out hga)
  replace HT := Lib.hid (NodeAt.grew hga HT.out)
  replace HG := Lib.hid (HG.out.trans hga)
  clear hga
  clear hz1
  by_cases h3 : 3 ≤ d.length
  rotate_left
  · have hl3 : (d.length : Int) < 3 := by omega
    have HV : Hid (res = false) := by show _ = _; rw [← HRES.out]; simp [h3]
    go_wp2_with fail
    go_ret
    exact ⟨by rw [HV.out]; rfl, HG.out⟩
  have hl1 : d.length - 1 < d.length := by omega
  have hl2 : d.length - 2 < d.length := by omega
  obtain ⟨b1, hb1⟩ : ∃ b, d[d.length - 1]? = some b := ⟨_, List.getElem?_eq_getElem hl1⟩
  obtain ⟨b2, hb2⟩ : ∃ b, d[d.length - 2]? = some b := ⟨_, List.getElem?_eq_getElem hl2⟩
  obtain ⟨bl, bo, rfl, hc1⟩ : ∃ bl bo, da = some ⟨bl, bo, none⟩ ∧ x1.cell? ⟨bl, bo + (d.length - 1), none⟩ = some (.int .u8 b1.toNat) := by
    obtain ⟨⟨a, c, e, _, _, h⟩, _⟩ := HD.out
    cases e
    obtain ⟨bl, bo, e, hc⟩ := h _ b1 hb1
    exact ⟨bl, bo, e, hc⟩
  have hc2 : x1.cell? ⟨bl, bo + (d.length - 2), none⟩ = some (.int .u8 b2.toNat) := by
    obtain ⟨⟨a, c, e, _, _, h⟩, _⟩ := HD.out
    cases e
    obtain ⟨bl', bo', e, hc⟩ := h _ b2 hb2
    cases e
    exact hc
  have e1 : lastB d 1 = (b1.toNat : Int) := by unfold lastB; rw [hb1]; rfl
  rw [e1, hb2] at HRES
  simp only [Option.getD_some] at HRES
  have hbn : b1.toNat < 256 := UInt8.toNat_lt _
  obtain ⟨x, hx⟩ : ∃ x : Int, (b1.toNat : Int) = x := ⟨_, rfl⟩
  rw [hx] at HRES hc1
  have hx0 : 0 ≤ x ∧ x < 256 := by omega
  have hun := Ft.unpack_any b2.toNat
  obtain ⟨un, hun2⟩ : ∃ q, Ft.unpackF b2.toNat = q := ⟨_, rfl⟩
  rw [hun2] at hun
  simp only [hun2] at HRES
  have HUN := Lib.hid hun
  clear hun hun2 e1 hx hbn hb1 hb2 hl1 hl2
  obtain ⟨own, wide, ue⟩ := un
  simp only at HUN HRES
  have hw1 : IntKind.i64.wrap ((d.length : Int) - 1) = (d.length : Int) - 1 := by rw [IntKind.wrap_i64]; omega
  have hw2 : IntKind.i64.wrap ((d.length : Int) - 2) = (d.length : Int) - 2 := by rw [IntKind.wrap_i64]; omega
  have hn1 : ((d.length : Int) - 1).toNat = d.length - 1 := by omega
  have hn2 : ((d.length : Int) - 2).toNat = d.length - 2 := by omega
  have hg1 : 0 ≤ (d.length : Int) - 1 ∧ (d.length : Int) - 1 < d.length := by omega
  have hg2 : 0 ≤ (d.length : Int) - 2 ∧ (d.length : Int) - 2 < d.length := by omega
  have hwx : IntKind.i64.wrap x = x := by rw [IntKind.wrap_i64]; omega
  obtain ⟨ps, hps⟩ : ∃ p : Int, (d.length : Int) - 2 - x = p := ⟨_, rfl⟩
  have hw3 : IntKind.i64.wrap ((d.length : Int) - 2 - x) = ps := by rw [IntKind.wrap_i64]; omega
  have hpr : -256 ≤ ps ∧ ps ≤ 1048576 := by omega
  rw [hps] at HRES
  clear hps
  go_wp2_with fail
  refine (HUN.out x1 (UInt8.toNat_lt _)).mono ?_
  rintro r u1 ⟨rfl, hgc⟩
  clear hc1 hc2
  replace HD := Lib.hid (DocAt.grew HD.out hgc)
  replace HT := Lib.hid (NodeAt.grew hgc HT.out)
  replace HRT := Lib.hid (hgc.heap HRT.out)
  replace HG := Lib.hid (HG.out.trans hgc)
  clear hgc
  go_wp2_with fail
  refine (code_any x u1).mono ?_
  rintro r w1 ⟨⟨cw, rfl⟩, e⟩
  rw [e]
  clear e w1
  by_cases hue : ue = 0
  rotate_left
  · have hbu : (ue != 0) = true := by simpa using hue
    have HV : Hid (res = false) := by show _ = _; rw [← HRES.out]; simp [hue]
    go_wp2_with fail
    go_ret
    exact ⟨by rw [HV.out]; rfl, HG.out⟩
  subst hue
  by_cases hww : isW x = true
  rotate_left
  · have hce : (codeE x != 0) = true := by unfold codeE; rw [if_neg hww]; decide
    have HV : Hid (res = false) := by show _ = _; rw [← HRES.out]; simp [hww]
    go_wp2_with fail
    go_ret
    exact ⟨by rw [HV.out]; rfl, HG.out⟩
  have hce : codeE x = 0 := by unfold codeE; rw [if_pos hww]
  rw [hce]
  clear hce
  by_cases hp0 : 0 ≤ ps
  rotate_left
  · have hlt0 : ps < 0 := by omega
    have HV : Hid (res = false) := by show _ = _; rw [← HRES.out]; simp [hp0]
    go_wp2_with fail
    go_ret
    exact ⟨by rw [HV.out]; rfl, HG.out⟩
  have hx1 : 1 ≤ x ∧ x ≤ 8 := by rcases isW_cases hww with rfl | rfl | rfl | rfl <;> omega
  have ht : Int.tmod ps x = ps % x := Int.tmod_eq_emod_of_nonneg hp0
  have hwz : (x == 0) = false := by rw [beq_eq_false_iff_ne]; omega
  have hm0 : 0 ≤ ps % x ∧ ps % x < 8 := ⟨Int.emod_nonneg _ (by omega), Int.lt_of_lt_of_le (Int.emod_lt_of_pos _ (by omega)) hx1.2⟩
  have hwm : IntKind.i64.wrap (ps % x) = ps % x := by rw [IntKind.wrap_i64]; omega
  obtain ⟨md, hmd⟩ : ∃ q, ps % x = q := ⟨_, rfl⟩
  rw [hmd] at ht hwm hm0
  simp only [hmd] at HRES
  clear hmd
  by_cases hm : md = 0
  rotate_left
  · have hbm : (md != 0) = true := by simpa using hm
    have HV : Hid (res = false) := by show _ = _; rw [← HRES.out]; simp [hm]
    go_wp2_with fail
    go_ret
    exact ⟨by rw [HV.out]; rfl, HG.out⟩
  subst hm
  have HRS : Hid (res = saysF d own ps x wide ps t) := by show _ = _; rw [← HRES.out]; simp [h3, hww, hp0]
  have HPS : Hid (i64ok ps) := by show i64ok ps; unfold i64ok; omega
  have HDL : Hid (d.length ≤ 1048576) := hdl
  obtain ⟨rb, hrb⟩ : ∃ b, saysF d own ps x wide ps t = b := ⟨_, rfl⟩
  have HRB := Lib.hid hrb
  clear hrb
  go_upto_region 9 with fail
  have e0 := row_cellT HRT.out 0 _ rfl
  have e1 := row_cellT HRT.out 1 _ rfl
  have e2 := row_cellT HRT.out 2 _ rfl
  have e3 := row_cellT HRT.out 3 _ rfl
  have e4 := row_cellT HRT.out 4 _ rfl
  have e5 := row_cellT HRT.out 5 _ rfl
  refine wp_region_tables Grew [[], [0], [], [], [], [], [2, 3, 4, 5], [], [0, 1, 2, 3, 4, 5, 6, 7], [0, 1, 2, 3, 4, 5, 6, 7, 8]] [[(61, 2), (62, 3), (63, 4), (64, 5), (65, 6), (66, 7)], [(59, 0), (61, 2), (62, 3), (63, 4), (64, 5), (65, 6), (66, 7)], [(59, 0), (60, 1), (62, 3), (63, 4), (64, 5), (66, 7)], [(59, 0), (60, 1), (61, 2), (63, 4), (64, 5), (66, 7)], [(59, 0), (60, 1), (61, 2), (62, 3), (64, 5), (66, 7)], [(59, 0), (60, 1), (61, 2), (62, 3), (63, 4), (66, 7)], [(59, 0), (60, 1), (61, 2), (62, 3), (63, 4), (64, 5), (66, 7)], [(59, 0), (60, 1), (61, 2), (62, 3), (63, 4), (64, 5), (65, 6)], [(59, 0), (60, 1), (61, 2), (62, 3), (63, 4), (64, 5), (65, 6), (66, 7)], [(59, 0), (60, 1), (61, 2), (62, 3), (63, 4), (64, 5), (65, 6), (66, 7), (67, 8)]] [(59, 0), (60, 1), (61, 2), (62, 3), (63, 4), (64, 5), (65, 6), (66, 7), (67, 8), (4, 9)]
    [Is (.slice (some ⟨bl, bo, none⟩) d.length dc), fun v w => DocAt w v d, Is (.int .i64 ps), Is (.int .i64 x), Is (.int .i64 own), Is (.int .i64 wide), Is (.agg #[.int .i64 ps, .int .i64 x, .int .i64 own, .int .i64 wide]), Is (.agg #[.int .i64 tk, .int .i64 tn, .int .u64 tu, .string ts, .slice ta4 tn4 tc4, .slice ta5 tn5 tc5]), Is (.bool rb), Is (.bool rb)]
    (by kernel_rfl) Grew.trans Grew.refl (Grew.refl _).drew (by kernel_rfl) ⟨is_st, fun _ _ _ hg h => h.grew hg, is_st, is_st, is_st, is_st, is_st, is_st, is_st, is_st, trivial⟩ ?_ rfl ?_
  rotate_left
  · intro y w2 hG hF
    simp only [factsH, Is, and_true, Nat.reduceAdd] at hF
    have hlast := hF.2.2.2.2.2.2.2.2.2
    clear hF
    simp only [fillL, Act.put, List.setIfInBounds_toArray, List.set_cons_zero, List.set_cons_succ, List.getD_cons_zero, List.getD_cons_succ, hlast]
    have HGF := Lib.hid (HG.out.trans hG)
    clear hG hlast
    go_wp2_with fail
    go_ret
    exact ⟨by rw [HRS.out, HRB.out]; rfl, HGF.out⟩
  refine ⟨?_, ?_⟩
  · intro y w2 hG hD K hK
    generalize hA : fillL y _ _ = A at hK ⊢
    simp only [fillL, Act.put, List.setIfInBounds_toArray, List.set_cons_zero, List.set_cons_succ, List.getD_cons_zero, List.getD_cons_succ, Is] at hA
    subst hA
    refine ite_yes (by rfl) ?_
    go_simp
    exact hK _ _ _ rfl (Grew.refl _) rfl
  refine ⟨?_, ?_⟩
  · intro y w2 hG hD K hK
    simp only [depsH, List.getD_cons_zero, List.getD_cons_succ, Is, and_true] at hD
    have h0 := hD
    clear hD
    generalize hA : fillL y _ _ = A at hK ⊢
    simp only [fillL, Act.put, List.setIfInBounds_toArray, List.set_cons_zero, List.set_cons_succ, List.getD_cons_zero, List.getD_cons_succ, Is] at hA
    subst hA
    simp only [h0] at hK ⊢
    clear h0
    refine ite_yes (by rfl) ?_
    go_simp
    refine (cloneB_any w2 _ d (HD.out.grew hG).1 (by have := HDL.out; omega)).mono ?_
    rintro r w3 ⟨v', rfl, hv, hg3⟩
    exact hK _ _ _ rfl hg3 (doc_own hv HDL.out)
  refine ⟨?_, ?_⟩
  · intro y w2 hG hD K hK
    generalize hA : fillL y _ _ = A at hK ⊢
    simp only [fillL, Act.put, List.setIfInBounds_toArray, List.set_cons_zero, List.set_cons_succ, List.getD_cons_zero, List.getD_cons_succ, Is] at hA
    subst hA
    refine ite_yes (by rfl) ?_
    go_simp
    exact hK _ _ _ rfl (Grew.refl _) rfl
  refine ⟨?_, ?_⟩
  · intro y w2 hG hD K hK
    generalize hA : fillL y _ _ = A at hK ⊢
    simp only [fillL, Act.put, List.setIfInBounds_toArray, List.set_cons_zero, List.set_cons_succ, List.getD_cons_zero, List.getD_cons_succ, Is] at hA
    subst hA
    refine ite_yes (by rfl) ?_
    go_simp
    exact hK _ _ _ rfl (Grew.refl _) rfl
  refine ⟨?_, ?_⟩
  · intro y w2 hG hD K hK
    generalize hA : fillL y _ _ = A at hK ⊢
    simp only [fillL, Act.put, List.setIfInBounds_toArray, List.set_cons_zero, List.set_cons_succ, List.getD_cons_zero, List.getD_cons_succ, Is] at hA
    subst hA
    refine ite_yes (by rfl) ?_
    go_simp
    exact hK _ _ _ rfl (Grew.refl _) rfl
  refine ⟨?_, ?_⟩
  · intro y w2 hG hD K hK
    generalize hA : fillL y _ _ = A at hK ⊢
    simp only [fillL, Act.put, List.setIfInBounds_toArray, List.set_cons_zero, List.set_cons_succ, List.getD_cons_zero, List.getD_cons_succ, Is] at hA
    subst hA
    refine ite_yes (by rfl) ?_
    go_simp
    exact hK _ _ _ rfl (Grew.refl _) rfl
  refine ⟨?_, ?_⟩
  · intro y w2 hG hD K hK
    simp only [depsH, List.getD_cons_zero, List.getD_cons_succ, Is, and_true] at hD
    have h2 := hD.1
    have h3 := hD.2.1
    have h4 := hD.2.2.1
    have h5 := hD.2.2.2
    clear hD
    generalize hA : fillL y _ _ = A at hK ⊢
    simp only [fillL, Act.put, List.setIfInBounds_toArray, List.set_cons_zero, List.set_cons_succ, List.getD_cons_zero, List.getD_cons_succ, Is] at hA
    subst hA
    simp only [h2, h3, h4, h5] at hK ⊢
    clear h2 h3 h4 h5
    refine ite_yes (by rfl) ?_
    go_simp
    exact hK _ _ _ rfl (Grew.refl _) rfl
  refine ⟨?_, ?_⟩
  · intro y w2 hG hD K hK
    have de0 := hG.cell e0
    have de1 := hG.cell e1
    have de2 := hG.cell e2
    have de3 := hG.cell e3
    have de4 := hG.cell e4
    have de5 := hG.cell e5
    generalize hA : fillL y _ _ = A at hK ⊢
    simp only [fillL, Act.put, List.setIfInBounds_toArray, List.set_cons_zero, List.set_cons_succ, List.getD_cons_zero, List.getD_cons_succ, Is] at hA
    subst hA
    refine ite_yes (by rfl) ?_
    go_simp
    exact hK _ _ _ rfl (Grew.refl _) rfl
  refine ⟨?_, ?_⟩
  · intro y w2 hG hD K hK
    simp only [depsH, List.getD_cons_zero, List.getD_cons_succ, Is, and_true] at hD
    have h0 := hD.1
    have h1 := hD.2.1
    have h2 := hD.2.2.1
    have h3 := hD.2.2.2.1
    have h4 := hD.2.2.2.2.1
    have h5 := hD.2.2.2.2.2.1
    have h6 := hD.2.2.2.2.2.2.1
    have h7 := hD.2.2.2.2.2.2.2
    clear hD
    generalize hA : fillL y _ _ = A at hK ⊢
    simp only [fillL, Act.put, List.setIfInBounds_toArray, List.set_cons_zero, List.set_cons_succ, List.getD_cons_zero, List.getD_cons_succ, Is] at hA
    subst hA
    simp only [h0, h2, h3, h4, h5, h6, h7] at hK ⊢
    clear h0 h2 h3 h4 h5 h6 h7
    refine ite_yes (by rfl) ?_
    go_simp
    refine (At_any d _ ps x own wide t ho _ w2 h1 (HT.out.grew hG) HPS.out).mono ?_
    rintro r w3 ⟨rfl, hg3⟩
    exact hK _ _ _ rfl hg3 (congrArg Value.bool HRB.out)
  refine ⟨?_, ?_⟩
  · intro y w2 hG hD K hK
    simp only [depsH, List.getD_cons_zero, List.getD_cons_succ, Is, and_true] at hD
    have h0 := hD.1
    have h1 := hD.2.1
    have h2 := hD.2.2.1
    have h3 := hD.2.2.2.1
    have h4 := hD.2.2.2.2.1
    have h5 := hD.2.2.2.2.2.1
    have h6 := hD.2.2.2.2.2.2.1
    have h7 := hD.2.2.2.2.2.2.2.1
    have h8 := hD.2.2.2.2.2.2.2.2
    clear hD
    generalize hA : fillL y _ _ = A at hK ⊢
    simp only [fillL, Act.put, List.setIfInBounds_toArray, List.set_cons_zero, List.set_cons_succ, List.getD_cons_zero, List.getD_cons_succ, Is] at hA
    subst hA
    simp only [h0, h2, h3, h4, h5, h6, h7, h8] at hK ⊢
    clear h0 h2 h3 h4 h5 h6 h7 h8
    refine ite_yes (by rfl) ?_
    go_simp
    exact hK _ _ _ rfl (Grew.refl _) rfl
  trivial
end Go.Proofs.Ytlhliolknaopjaa

/-
  Keys: the examples of the chapter hold. Conditions: none.
-/
namespace Go.Proofs.Ytlhliolknaopjaa
open Go Go.ChangeShapes Go.WideShapes Go.ChangeAt Go.RowKit Go.Joins Go.Deep
set_option linter.unusedVariables false
set_option linter.unusedSimpArgs false

theorem lenoks (l : List ByteArray) (h : (l.all fun s => decide (s.size ≤ 9223372036854775807)) = true) : ∀ s ∈ l, lenok s.size := by
  intro s hs
  simpa [lenok] using List.all_eq_true.1 h s hs
end Go.Proofs.Ytlhliolknaopjaa
