/-
  Texts of the proof, part 8 of 9.
-/
import Derived.Test.YtlhliolknaopjaaPG

/-
  Denote: the reference's vector at an untyped vector, where says and keys are given. Conditions: the bytes, the tree lie in memory; the tree is small.
-/
namespace Go.Proofs.Ytlhliolknaopjaa
open Go Go.ChangeShapes Go.WideShapes Go.ChangeAt Go.RowKit Go.Joins Go.Deep
set_option linter.unusedVariables false
set_option linter.unusedSimpArgs false

set_option maxRecDepth 100000 in
set_option maxHeartbeats 4000000 in
theorem vec_walkB (d : List UInt8) (typ k n u : Int) (s : ByteArray) (keys : List ByteArray) (l : List Tr) (hl : l.length ≤ 4096) (hkl4 : keys.length ≤ 4096) (hkids : ∀ x ∈ l, ∀ typ', ((shapeF typ).1 = 10 ∨ (shapeF typ).1 = 17 ∨ typ' = (Ft.elemF typ).1) → RSays d typ' x) (hkeys : (shapeF typ).1 = 17 → RKeys d keys) (hcase : (shapeF typ).1 = 10) : VecR d typ (.mk k n u s keys l) := by
  intro dv pos par wid at_ tv w hD hn ha hw
  simp only [NodeAt] at hn
  obtain ⟨hb, kv, lv, vs, rfl, hks, hrl, hkd⟩ := hn
  have hkl := hkd.length
  have HD := Lib.hid hD
  have HKS := Lib.hid hks
  have HB := Lib.hid hb
  have hdl := hD.2.1
  obtain ⟨da, dc, rfl, hdc⟩ := hD.form
  obtain ⟨a4, c4, rfl, hk1, hk2, hk3⟩ := hks
  have HRL := Lib.hid hrl
  obtain ⟨a5, c5, rfl, hl1, hl2, hl3, hl4⟩ := hrl
  rw [hkl] at HRL hl1 ⊢
  have HKD := Lib.hid hkd
  have HHK := Lib.hid hkids
  have HKY := Lib.hid hkeys
  have HW := Lib.hid hw
  have hlc : (l.length : Int) ≤ c5 := by omega
  clear hD hb hk1 hk2 hk3 hl2 hl3 hl4 hkd hkl hkids hkeys hl1
  have hw1 : 1 ≤ wid ∧ wid ≤ 8 := by rcases isW_cases hw with rfl | rfl | rfl | rfl <;> omega
  have hnw : 0 ≤ (l.length : Int) * wid ∧ (l.length : Int) * wid ≤ 32768 := by
    refine ⟨Int.mul_nonneg (by omega) (by omega), ?_⟩
    have h1 := Int.mul_le_mul (show (l.length : Int) ≤ 4096 by omega) hw1.2 (by omega) (by omega)
    omega
  have HSR := Lib.hid (shape_range typ)
  obtain ⟨q, hq⟩ : ∃ q, shapeF typ = q := ⟨_, rfl⟩
  rw [hq] at HSR
  have hshp := rkind_any typ
  rw [hq] at hshp
  have HSP := Lib.hid hshp
  clear hshp
  obtain ⟨kd, many⟩ := q
  simp only at HSR HSP
  obtain ⟨res, hres⟩ : ∃ b, listF d typ wid at_ (.mk k n u s keys l) = b := ⟨_, rfl⟩
  rw [hres]
  have HRES := Lib.hid hres
  clear hres
  rw [list_form hq] at HRES
  have HQ := Lib.hid hq
  have h10 : kd = 10 := by rw [hq] at hcase; exact hcase
  clear hcase
  clear hq
  have HG := Lib.hid (Grew.refl w)
  have hws : IntKind.i64.wrap ((l.length : Int) * wid) = (l.length : Int) * wid := by rw [IntKind.wrap_i64]; omega
  have hwe : IntKind.i64.wrap (at_ + (l.length : Int) * wid) = at_ + (l.length : Int) * wid := by rw [IntKind.wrap_i64]; omega
  have hwt : IntKind.i64.wrap (at_ + (l.length : Int) * wid + l.length) = at_ + (l.length : Int) * wid + l.length := by rw [IntKind.wrap_i64]; omega
  have hwf : IntKind.i64.wrap (at_ - wid) = at_ - wid := by rw [IntKind.wrap_i64]; omega
  have hw3 : IntKind.i64.wrap (3 * wid) = 3 * wid := by rw [IntKind.wrap_i64]; omega
  have hwm3 : IntKind.i64.wrap (at_ - 3 * wid) = at_ - 3 * wid := by rw [IntKind.wrap_i64]; omega
  have ht : Int.tmod at_ wid = at_ % wid := Int.tmod_eq_emod_of_nonneg ha.1
  have hwz : (wid == 0) = false := by rw [beq_eq_false_iff_ne]; omega
  have hm0 : 0 ≤ at_ % wid ∧ at_ % wid < 8 := ⟨Int.emod_nonneg _ (by omega), Int.lt_of_lt_of_le (Int.emod_lt_of_pos _ (by omega)) hw1.2⟩
  have hwm : IntKind.i64.wrap (at_ % wid) = at_ % wid := by rw [IntKind.wrap_i64]; omega
  obtain ⟨md, hmd⟩ : ∃ q, at_ % wid = q := ⟨_, rfl⟩
  rw [hmd] at ht hwm hm0 HRES
  clear hmd
  obtain ⟨K0, hK0⟩ : ∃ b, kidsF d typ wid at_ l.length 0 l = b := ⟨_, rfl⟩
  rw [hK0] at HRES
  have HK0 := Lib.hid hK0
  clear hK0
  go_enter Try.func59, Try.ntmps59
  go_upto_region 1 with fail
  obtain ⟨pr, hpr⟩ : ∃ N, w.heap.size = N := ⟨_, rfl⟩
  have HPR := Lib.hid hpr
  have hr1 := heap_alloc_new w (.cells #[.int .i64 pos, .int .i64 par, .int .i64 typ, .int .i64 wid] 35)
  have hga := (Grew.refl w).alloc (.cells #[.int .i64 pos, .int .i64 par, .int .i64 typ, .int .i64 wid] 35)
  have hz1 : (w.alloc (.cells #[.int .i64 pos, .int .i64 par, .int .i64 typ, .int .i64 wid] 35)).heap.size = pr + 1 := by rw [World.size_alloc, hpr]
  generalize (w.alloc (.cells #[.int .i64 pos, .int .i64 par, .int .i64 typ, .int .i64 wid] 35)) = x1 at *
  rw [hpr] at hr1 ⊢
  have hr2 := heap_alloc_new x1 (.cells #[.int .i64 k, .int .i64 n, .int .u64 u, .string s, .slice a4 keys.length c4, .slice a5 l.length c5] 27)
  have hgb := (Grew.refl x1).alloc (.cells #[.int .i64 k, .int .i64 n, .int .u64 u, .string s, .slice a4 keys.length c4, .slice a5 l.length c5] 27)
  generalize (x1.alloc (.cells #[.int .i64 k, .int .i64 n, .int .u64 u, .string s, .slice a4 keys.length c4, .slice a5 l.length c5] 27)) = x2 at *
  rw [hz1] at hr2
  try rw [hz1]
  have HRR := Lib.hid (hgb.heap hr1)
  have HRT := Lib.hid hr2
  replace HG := Lib.hid (hga.trans hgb)
  clear hr1 hr2 hz1 hpr hga hgb
  have c0 := row_cellT HRR.out 0 _ rfl
  have c1 := row_cellT HRR.out 1 _ rfl
  have c2 := row_cellT HRR.out 2 _ rfl
  have c3 := row_cellT HRR.out 3 _ rfl
  have e0 := row_cellT HRT.out 0 _ rfl
  have e1 := row_cellT HRT.out 1 _ rfl
  have e2 := row_cellT HRT.out 2 _ rfl
  have e3 := row_cellT HRT.out 3 _ rfl
  have e4 := row_cellT HRT.out 4 _ rfl
  have e5 := row_cellT HRT.out 5 _ rfl
  go_wp2_with fail
  refine (HSP.out x2).mono ?_
  rintro r u1 ⟨rfl, hgc⟩
  clear c0 c1 c2 c3
  clear e0 e1 e2 e3 e4 e5
  replace HRR := Lib.hid (hgc.heap HRR.out)
  replace HRT := Lib.hid (hgc.heap HRT.out)
  replace HG := Lib.hid (HG.out.trans hgc)
  clear hgc
  have c0 := row_cellT HRR.out 0 _ rfl
  have c1 := row_cellT HRR.out 1 _ rfl
  have c2 := row_cellT HRR.out 2 _ rfl
  have c3 := row_cellT HRR.out 3 _ rfl
  have e0 := row_cellT HRT.out 0 _ rfl
  have e1 := row_cellT HRT.out 1 _ rfl
  have e2 := row_cellT HRT.out 2 _ rfl
  have e3 := row_cellT HRT.out 3 _ rfl
  have e4 := row_cellT HRT.out 4 _ rfl
  have e5 := row_cellT HRT.out 5 _ rfl
  obtain rfl : many = 0 := HSR.out.2.2 (.inr h10)
  subst h10
  have HRS : Hid (res = (decide (k = 10) && decide (n = 0) && decide (u = 0) && decide (s = EMB) && decide (keys.length = 0) && decide (md = 0) && decide (at_ + (l.length : Int) * wid + (l.length : Int) ≤ d.length) && ((numF d (at_ - wid) wid).2 && decide ((numF d (at_ - wid) wid).1 = l.length)) && true && K0)) := by show _ = _; rw [← HRES.out]; simp [bareF, Tr.kind, Tr.fn, Tr.fu, Tr.fs, Tr.keys, Tr.kids, Bool.and_assoc, -List.length_eq_zero_iff, show taggedB 10 = true by decide] <;> (try rfl)
  by_cases hck : k = 10
  rotate_left
  · have hbx : (k != 10) = true := by simpa using hck
    have HV : Hid (res = false) := by show _ = _; rw [HRS.out]; simp [hck]
    go_wp2_with fail
    go_ret
    exact ⟨by rw [HV.out]; rfl, HG.out⟩
  have hbk0 : (k != 10) = false := by simpa using hck
  by_cases hcn : n = 0
  rotate_left
  · have hbx : (n != 0) = true := by simpa using hcn
    have HV : Hid (res = false) := by show _ = _; rw [HRS.out]; simp [hcn]
    go_wp2_with fail
    go_ret
    exact ⟨by rw [HV.out]; rfl, HG.out⟩
  have hbn0 : (n != 0) = false := by simpa using hcn
  by_cases hcu : u = 0
  rotate_left
  · have hbx : (u != 0) = true := by simpa using hcu
    have HV : Hid (res = false) := by show _ = _; rw [HRS.out]; simp [hcu]
    go_wp2_with fail
    go_ret
    exact ⟨by rw [HV.out]; rfl, HG.out⟩
  have hbu0 : (u != 0) = false := by simpa using hcu
  by_cases hcs : s = EMB
  rotate_left
  · have hbx : ¬ s.toList = [] := fun h => hcs ((toList_nil s).1 h)
    have HV : Hid (res = false) := by show _ = _; rw [HRS.out]; simp [hcs]
    go_wp2_with fail
    go_ret
    exact ⟨by rw [HV.out]; rfl, HG.out⟩
  have hbs0 : s.toList = [] := (toList_nil s).2 hcs
  have HCS := Lib.hid hcs
  clear hcs
  by_cases hcl : keys = []
  rotate_left
  · have HV : Hid (res = false) := by show _ = _; rw [HRS.out]; simp [hcl]
    have hbx : 0 < keys.length := List.length_pos_iff.2 hcl
    clear hcl
    go_wp2_with fail
    go_ret
    exact ⟨by rw [HV.out]; rfl, HG.out⟩
  subst hcl
  by_cases hmd0 : md = 0
  rotate_left
  · have hbx : (md != 0) = true := by simpa using hmd0
    have HV : Hid (res = false) := by show _ = _; rw [HRS.out]; simp [hmd0]
    go_wp2_with fail
    go_ret
    exact ⟨by rw [HV.out]; rfl, HG.out⟩
  subst hmd0
  have HRS1 : Hid (res = (decide (at_ + (l.length : Int) * wid + (l.length : Int) ≤ d.length) && ((numF d (at_ - wid) wid).2 && decide ((numF d (at_ - wid) wid).1 = l.length)) && true && K0)) := by show _ = _; rw [HRS.out]; simp [hck, hcn, hcu, HCS.out]
  clear hck hcn hcu
  replace HRS := HRS1
  obtain ⟨nn, hnn⟩ : ∃ q, numF d (at_ - wid) wid = q := ⟨_, rfl⟩
  have hnum := r27num_any d (.slice da d.length dc) (at_ - wid) wid
  unfold numR at hnum
  rw [hnn] at HRS hnum
  have HNU := Lib.hid hnum
  clear hnn hnum
  obtain ⟨nv, ni⟩ := nn
  simp only at HRS HNU
  go_wp2_with fail
  refine (HNU.out u1 (HD.out.grew HG.out)).mono ?_
  rintro r u2 ⟨rfl, rfl⟩
  cases ni
  · simp only [Bool.false_eq_true, if_false]
    have HV : Hid (res = false) := by show _ = _; rw [HRS.out]; simp
    go_wp2_with fail
    go_ret
    exact ⟨by rw [HV.out]; rfl, HG.out⟩
  simp only [if_true]
  by_cases hnv : nv = (l.length : Int)
  rotate_left
  · have hbx : (nv != (l.length : Int)) = true := by simpa using hnv
    have HV : Hid (res = false) := by show _ = _; rw [HRS.out]; simp [hnv]
    go_wp2_with fail
    go_ret
    exact ⟨by rw [HV.out]; rfl, HG.out⟩
  have hbx : (nv != (l.length : Int)) = false := by simpa using hnv
  by_cases hend : at_ + (l.length : Int) * wid + (l.length : Int) ≤ d.length
  rotate_left
  · have hgt : (d.length : Int) < at_ + (l.length : Int) * wid + (l.length : Int) := by omega
    have HV : Hid (res = false) := by show _ = _; rw [HRS.out]; simp [hend]
    go_wp2_with fail
    go_ret
    exact ⟨by rw [HV.out]; rfl, HG.out⟩
  have HRS2 : Hid (res = K0) := by show _ = _; rw [HRS.out]; simp [hnv, hend]
  clear hnv
  have hngt : ¬ (d.length : Int) < at_ + (l.length : Int) * wid + (l.length : Int) := by omega
  have hel := relem_any typ
  obtain ⟨el, hel2⟩ : ∃ e, Ft.elemF typ = e := ⟨_, rfl⟩
  rw [hel2] at hel
  have HEL := Lib.hid hel
  have HEQ := Lib.hid hel2
  clear hel hel2
  obtain ⟨el1, el2, el3⟩ := el
  simp only at HEL
  have HFI : Hid (firstF typ wid at_ = at_ - wid) := by show _ = _; unfold firstF; rw [HQ.out]; rfl
  have HEO : Hid (∀ i : Nat, elemOf d typ wid at_ l.length i = Ft.unpackF ((d[(at_ + (l.length : Int) * wid + i).toNat]?).getD 0).toNat) := fun i => by unfold elemOf; rw [HQ.out]; rfl
  have HEND : Hid (at_ + (l.length : Int) * wid + (l.length : Int) ≤ d.length) := hend
  have HRR0 := HRR
  have HRT0 := HRT
  go_upto_region 23 with fail
  clear c0 c1 c2 c3
  clear e0 e1 e2 e3 e4 e5
  go_wp2_with fail
  go_loopw [17] (fun i wr => ∃ kk : Nat, kk ≤ l.length ∧ i = .int .i64 kk ∧ Hid (Grew u2 wr ∧ K0 = kidsF d typ wid at_ l.length kk (l.drop kk))) (fun i _ => l.length - (intOf i).toNat)
  case atStart => exact ⟨0, Nat.zero_le _, rfl, by show _ ∧ _; exact ⟨Grew.refl _, by rw [List.drop_zero]; exact HK0.out.symm⟩⟩
  case round =>
    obtain ⟨kk, hkk, rfl, HL⟩ := hrel
    have HGW := Lib.hid (HG.out.trans HL.out.1)
    have HRRW := Lib.hid (HL.out.1.heap HRR0.out)
    have HRTW := Lib.hid (HL.out.1.heap HRT0.out)
    by_cases hlt : kk < l.length
    rotate_left
    · have ek : kk = l.length := by omega
      have HV : Hid (res = true) := by show _ = _; rw [HRS2.out, HL.out.2, ek, List.drop_length]; rfl
      subst ek
      clear hlt
      go_wp2_with fail
      go_ret
      exact ⟨by rw [HV.out]; rfl, HGW.out⟩
    obtain ⟨x, hx⟩ : ∃ x, l[kk]? = some x := ⟨_, List.getElem?_eq_getElem hlt⟩
    obtain ⟨xv, hxv, hnx⟩ := HKD.out.get hx
    have hxm : x ∈ l := List.mem_of_getElem? hx
    have HDR : Hid (l.drop kk = x :: l.drop (kk + 1)) := by show _ = _; rw [List.drop_eq_getElem_cons hlt]; congr 1; rw [List.getElem?_eq_getElem hlt] at hx; injection hx
    obtain ⟨b, off, rfl, hc6⟩ : ∃ b off, a5 = some ⟨b, off, none⟩ ∧ Cells6 wr b (off + kk * 6) xv := by
      obtain ⟨a, c, e, _, _, _, h⟩ := HRL.out
      injection e with e1 e2 e3
      subst e1
      obtain ⟨b, off, e, h6⟩ := h kk xv hxv
      exact ⟨b, off, e, h6.grew HGW.out⟩
    obtain ⟨xk, xn, xu, xs, xa4, xn4, xc4, xa5, xn5, xc5, rfl⟩ := hnx.node6
    have HC6 := Lib.hid hc6
    have HNX := Lib.hid (hnx.grew HGW.out)
    have hlti : (kk : Int) < l.length := by omega
    have hkw : 0 ≤ (kk : Int) * wid ∧ (kk : Int) * wid ≤ 32768 := by
      refine ⟨Int.mul_nonneg (by omega) (by omega), ?_⟩
      have h1 := Int.mul_le_mul (show (kk : Int) ≤ 4096 by omega) hw1.2 (by omega) (by omega)
      omega
    have hwk : IntKind.i64.wrap ((kk : Int) * wid) = (kk : Int) * wid := by rw [IntKind.wrap_i64]; omega
    have hwk2 : IntKind.i64.wrap (at_ + (kk : Int) * wid) = at_ + (kk : Int) * wid := by rw [IntKind.wrap_i64]; omega
    have HSX := Lib.hid (HHK.out x hxm)
    clear hc6 hx hxv hnx hxm
    have c2 := row_cellT HRRW.out 2 _ rfl
    go_wp2_with fail
    refine (HEL.out wr).mono ?_
    rintro r wq ⟨rfl, e⟩
    rw [e]
    clear e wq c2
    have hix : (at_ + (l.length : Int) * wid + (kk : Int)).toNat < d.length := by have := HEND.out; omega
    have hwx : IntKind.i64.wrap (at_ + (l.length : Int) * wid + (kk : Int)) = at_ + (l.length : Int) * wid + (kk : Int) := by rw [IntKind.wrap_i64]; omega
    have hend2 : at_ + (l.length : Int) * wid + (kk : Int) < d.length := by have := HEND.out; omega
    have hpos2 : 0 ≤ at_ + (l.length : Int) * wid + (kk : Int) := by omega
    obtain ⟨by_, hby⟩ : ∃ b, d[(at_ + (l.length : Int) * wid + (kk : Int)).toNat]? = some b := ⟨_, List.getElem?_eq_getElem hix⟩
    obtain ⟨bl, bo, rfl, hcb⟩ : ∃ bl bo, da = some ⟨bl, bo, none⟩ ∧ w.cell? ⟨bl, bo + (at_ + (l.length : Int) * wid + (kk : Int)).toNat, none⟩ = some (.int .u8 by_.toNat) := by
      obtain ⟨⟨a, c, e, _, _, h⟩, _⟩ := HD.out
      cases e
      obtain ⟨bl, bo, e, hc⟩ := h _ by_ hby
      exact ⟨bl, bo, e, hc⟩
    have hun := fun w => runpack_any by_.toNat w (by exact UInt8.toNat_lt _)
    obtain ⟨un, hun2⟩ : ∃ q, Ft.unpackF by_.toNat = q := ⟨_, rfl⟩
    rw [hun2] at hun
    have HUN := Lib.hid hun
    have HEK : Hid (elemOf d typ wid at_ l.length kk = un) := by show _ = _; rw [HEO.out, hby]; exact hun2
    clear hun hun2 hby
    obtain ⟨own, wide, ue⟩ := un
    simp only at HUN
    have hcb2 := (HGW.out.alloc (.cells #[.int .i64 (at_ + (kk : Int) * wid), .int .i64 wid, .int .i64 el1, .int .i64 wid] 35)).cell hcb
    go_wp2_with fail
    refine (HUN.out _).mono ?_
    rintro r wz ⟨rfl, rfl⟩
    clear hcb2
    by_cases hue : ue = 0
    rotate_left
    · have hbu : (ue != 0) = true := by simpa using hue
      have HV : Hid (res = false) := by show _ = _; rw [HRS2.out, HL.out.2, HDR.out, kidsF, HEK.out, decide_eq_false hue]; rfl
      have HGF := Lib.hid (HGW.out.alloc (.cells #[.int .i64 (at_ + (kk : Int) * wid), .int .i64 wid, .int .i64 el1, .int .i64 wid] 35))
      clear hue
      go_wp2_with fail
      go_ret
      exact ⟨by rw [HV.out]; rfl, HGF.out⟩
    subst hue
    go_upto_region 33 with fail
    have hry := heap_alloc_new wr (.cells #[.int .i64 (at_ + (kk : Int) * wid), .int .i64 wid, .int .i64 own, .int .i64 wide] 35)
    have hgy := (Grew.refl wr).alloc (.cells #[.int .i64 (at_ + (kk : Int) * wid), .int .i64 wid, .int .i64 own, .int .i64 wide] 35)
    generalize (wr.alloc (.cells #[.int .i64 (at_ + (kk : Int) * wid), .int .i64 wid, .int .i64 own, .int .i64 wide] 35)) = y1 at *
    obtain ⟨px, hpx⟩ : ∃ N, wr.heap.size = N := ⟨_, rfl⟩
    rw [hpx] at hry ⊢
    have HRY := Lib.hid hry
    have HGY := Lib.hid hgy
    clear hry hgy hpx
    have e5 := HGY.out.cell (row_cellT HRTW.out 5 _ rfl)
    obtain ⟨f0, f1, f2, f3, f4, f5⟩ := (HC6.out.grew HGY.out).get
    have g0 := row_cellT HRY.out 0 _ rfl
    have g1 := row_cellT HRY.out 1 _ rfl
    have g2 := row_cellT HRY.out 2 _ rfl
    have g3 := row_cellT HRY.out 3 _ rfl
    have hsay := fun w2 (h : Grew y1 w2) => HSX.out own (.inl (by rw [HQ.out])) (.slice (some ⟨bl, bo, none⟩) d.length dc) (at_ + (kk : Int) * wid) wid wide (at_ - wid) _ w2 (HD.out.grew (HGW.out.trans (HGY.out.trans h))) (HNX.out.grew (HGY.out.trans h)) (by unfold i64ok; omega)
    obtain ⟨sB, hsB⟩ : ∃ b, saysF d own (at_ + (kk : Int) * wid) wid wide (at_ - wid) x = b := ⟨_, rfl⟩
    rw [hsB] at hsay
    have HKX : Hid (K0 = (sB && kidsF d typ wid at_ l.length (kk + 1) (l.drop (kk + 1)))) := by show _ = _; rw [HL.out.2, HDR.out, kidsF, HEK.out]; simp only; rw [HFI.out, hsB]; rfl
    have HSAY := Lib.hid hsay
    clear hsay hsB
    refine wp_region_tables Grew [[], [], [], [], [3], [], [3, 4, 5], [3, 4, 5, 6], [0, 1, 2, 3, 4, 5, 6, 7], [0, 1, 2, 3, 4, 5, 6, 7, 8]] [[(190, 1), (191, 2), (192, 3), (193, 4), (194, 5), (195, 6), (196, 7)], [(189, 0), (191, 2), (192, 3), (193, 4), (194, 5), (195, 6), (196, 7)], [(189, 0), (190, 1), (192, 3), (193, 4), (194, 5), (195, 6), (196, 7)], [(189, 0), (190, 1), (191, 2), (194, 5)], [(189, 0), (190, 1), (191, 2), (192, 3), (194, 5)], [(189, 0), (190, 1), (191, 2), (192, 3), (193, 4)], [(189, 0), (190, 1), (191, 2), (192, 3), (193, 4), (194, 5)], [(189, 0), (190, 1), (191, 2), (192, 3), (193, 4), (194, 5), (195, 6)], [(189, 0), (190, 1), (191, 2), (192, 3), (193, 4), (194, 5), (195, 6), (196, 7)], [(189, 0), (190, 1), (191, 2), (192, 3), (193, 4), (194, 5), (195, 6), (196, 7), (197, 8)]] [(189, 0), (190, 1), (191, 2), (192, 3), (193, 4), (194, 5), (195, 6), (196, 7), (197, 8), (198, 9)]
      [Is (.slice (some ⟨bl, bo, none⟩) d.length dc), Is (.agg #[.int .i64 (at_ + (kk : Int) * wid), .int .i64 wid, .int .i64 own, .int .i64 wide]), Is (.int .i64 (at_ - wid)), Is (.pointer (some ⟨pr + 1, 5, none⟩)), Is (.slice (some ⟨b, off, none⟩) l.length c5), Is (.int .i64 (kk : Int)), Is (.pointer (some ⟨b, off + kk * 6, none⟩)), Is (.agg #[.int .i64 xk, .int .i64 xn, .int .u64 xu, .string xs, .slice xa4 xn4 xc4, .slice xa5 xn5 xc5]), Is (.bool sB), Is (.bool (!sB))]
      (by kernel_rfl) Grew.trans Grew.refl (Grew.refl _).drew (by kernel_rfl) ⟨is_st, is_st, is_st, is_st, is_st, is_st, is_st, is_st, is_st, is_st, trivial⟩ ?_ rfl ?_
    rotate_left
    · intro y w2 hG hF
      simp only [factsH, Is, and_true, Nat.reduceAdd] at hF
      have hlast := hF.2.2.2.2.2.2.2.2.2
      clear hF
      simp only [fillL, Act.put, List.setIfInBounds_toArray, List.set_cons_zero, List.set_cons_succ, List.getD_cons_zero, List.getD_cons_succ, hlast]
      have HG6 := Lib.hid (HGY.out.trans hG)
      clear hG hlast f0 f1 f2 f3 f4 f5 g0 g1 g2 g3 e5
      cases sB
      · have HV : Hid (res = false) := by show _ = _; rw [HRS2.out, HKX.out]; rfl
        have HGF := Lib.hid (HGW.out.trans HG6.out)
        go_wp2_with fail
        go_ret
        exact ⟨by rw [HV.out]; rfl, HGF.out⟩
      · go_wp2_with fail
        go_roundw
        case rel => exact ⟨kk + 1, by omega, by go_num, by
          show _ ∧ _
          exact ⟨HL.out.1.trans HG6.out, by rw [HKX.out]; rfl⟩⟩
        case measure => simp [intOf]; omega
    refine ⟨?_, ?_⟩
    · intro y w2 hG hD K hK
      simp only [fillL, Act.put, List.setIfInBounds_toArray, List.set_cons_zero, List.set_cons_succ, List.getD_cons_zero, List.getD_cons_succ, Is] at hK ⊢
      refine ite_yes (by rfl) ?_
      go_simp
      exact hK _ _ _ rfl (Grew.refl _) rfl
    refine ⟨?_, ?_⟩
    · intro y w2 hG hD K hK
      have dg0 := hG.cell g0
      have dg1 := hG.cell g1
      have dg2 := hG.cell g2
      have dg3 := hG.cell g3
      simp only [fillL, Act.put, List.setIfInBounds_toArray, List.set_cons_zero, List.set_cons_succ, List.getD_cons_zero, List.getD_cons_succ, Is] at hK ⊢
      refine ite_yes (by rfl) ?_
      go_simp
      exact hK _ _ _ rfl (Grew.refl _) rfl
    refine ⟨?_, ?_⟩
    · intro y w2 hG hD K hK
      simp only [fillL, Act.put, List.setIfInBounds_toArray, List.set_cons_zero, List.set_cons_succ, List.getD_cons_zero, List.getD_cons_succ, Is] at hK ⊢
      refine ite_yes (by rfl) ?_
      go_simp
      exact hK _ _ _ rfl (Grew.refl _) rfl
    refine ⟨?_, ?_⟩
    · intro y w2 hG hD K hK
      simp only [fillL, Act.put, List.setIfInBounds_toArray, List.set_cons_zero, List.set_cons_succ, List.getD_cons_zero, List.getD_cons_succ, Is] at hK ⊢
      refine ite_yes (by rfl) ?_
      go_simp
      exact hK _ _ _ rfl (Grew.refl _) rfl
    refine ⟨?_, ?_⟩
    · intro y w2 hG hD K hK
      simp only [depsH, List.getD_cons_zero, List.getD_cons_succ, Is, and_true] at hD
      have h3 := hD
      clear hD
      have de5 := hG.cell e5
      simp only [fillL, Act.put, List.setIfInBounds_toArray, List.set_cons_zero, List.set_cons_succ, List.getD_cons_zero, List.getD_cons_succ, Is] at hK ⊢
      simp only [h3] at hK ⊢
      clear h3
      refine ite_yes (by rfl) ?_
      go_simp
      exact hK _ _ _ rfl (Grew.refl _) rfl
    refine ⟨?_, ?_⟩
    · intro y w2 hG hD K hK
      simp only [fillL, Act.put, List.setIfInBounds_toArray, List.set_cons_zero, List.set_cons_succ, List.getD_cons_zero, List.getD_cons_succ, Is] at hK ⊢
      refine ite_yes (by rfl) ?_
      go_simp
      exact hK _ _ _ rfl (Grew.refl _) rfl
    refine ⟨?_, ?_⟩
    · intro y w2 hG hD K hK
      simp only [depsH, List.getD_cons_zero, List.getD_cons_succ, Is, and_true] at hD
      have h3 := hD.1
      have h4 := hD.2.1
      have h5 := hD.2.2
      clear hD
      simp only [fillL, Act.put, List.setIfInBounds_toArray, List.set_cons_zero, List.set_cons_succ, List.getD_cons_zero, List.getD_cons_succ, Is] at hK ⊢
      simp only [h3, h4, h5] at hK ⊢
      clear h3 h4 h5
      refine ite_yes (by rfl) ?_
      go_simp
      exact hK _ _ _ rfl (Grew.refl _) rfl
    refine ⟨?_, ?_⟩
    · intro y w2 hG hD K hK
      simp only [depsH, List.getD_cons_zero, List.getD_cons_succ, Is, and_true] at hD
      have h3 := hD.1
      have h4 := hD.2.1
      have h5 := hD.2.2.1
      have h6 := hD.2.2.2
      clear hD
      have df0 := hG.cell f0
      have df1 := hG.cell f1
      have df2 := hG.cell f2
      have df3 := hG.cell f3
      have df4 := hG.cell f4
      have df5 := hG.cell f5
      simp only [fillL, Act.put, List.setIfInBounds_toArray, List.set_cons_zero, List.set_cons_succ, List.getD_cons_zero, List.getD_cons_succ, Is] at hK ⊢
      simp only [h3, h4, h5, h6] at hK ⊢
      clear h3 h4 h5 h6
      refine ite_yes (by rfl) ?_
      go_simp
      exact hK _ _ _ rfl (Grew.refl _) rfl
    refine ⟨?_, ?_⟩
    · intro y w2 hG hD K hK
      simp only [depsH, List.getD_cons_zero, List.getD_cons_succ, Is, and_true] at hD
      have h0 := hD.1
      have h1 := hD.2.1
      have h2 := hD.2.2.1
      have h3 := hD.2.2.2.1
      have h4 := hD.2.2.2.2.1
      have h5 := hD.2.2.2.2.2.1
      have h6 := hD.2.2.2.2.2.2.1
      have h7 := hD.2.2.2.2.2.2.2
      clear hD
      simp only [fillL, Act.put, List.setIfInBounds_toArray, List.set_cons_zero, List.set_cons_succ, List.getD_cons_zero, List.getD_cons_succ, Is] at hK ⊢
      simp only [h0, h1, h2, h3, h4, h5, h6, h7] at hK ⊢
      clear h0 h1 h2 h3 h4 h5 h6 h7
      refine ite_yes (by rfl) ?_
      go_simp
      refine (HSAY.out w2 hG).mono ?_
      rintro r w3 ⟨rfl, hg3⟩
      exact hK _ _ _ rfl hg3 rfl
    refine ⟨?_, ?_⟩
    · intro y w2 hG hD K hK
      simp only [depsH, List.getD_cons_zero, List.getD_cons_succ, Is, and_true] at hD
      have h0 := hD.1
      have h1 := hD.2.1
      have h2 := hD.2.2.1
      have h3 := hD.2.2.2.1
      have h4 := hD.2.2.2.2.1
      have h5 := hD.2.2.2.2.2.1
      have h6 := hD.2.2.2.2.2.2.1
      have h7 := hD.2.2.2.2.2.2.2.1
      have h8 := hD.2.2.2.2.2.2.2.2
      clear hD
      simp only [fillL, Act.put, List.setIfInBounds_toArray, List.set_cons_zero, List.set_cons_succ, List.getD_cons_zero, List.getD_cons_succ, Is] at hK ⊢
      simp only [h0, h1, h2, h3, h4, h5, h6, h7, h8] at hK ⊢
      clear h0 h1 h2 h3 h4 h5 h6 h7 h8
      refine ite_yes (by rfl) ?_
      go_simp
      exact hK _ _ _ rfl (Grew.refl _) rfl
    trivial
end Go.Proofs.Ytlhliolknaopjaa

/-
  Denote: the reference's vector at a typed vector, where says and keys are given. Conditions: the bytes, the tree lie in memory; the tree is small.
-/
namespace Go.Proofs.Ytlhliolknaopjaa
open Go Go.ChangeShapes Go.WideShapes Go.ChangeAt Go.RowKit Go.Joins Go.Deep
set_option linter.unusedVariables false
set_option linter.unusedSimpArgs false

set_option maxRecDepth 100000 in
set_option maxHeartbeats 4000000 in
theorem vec_walkC (d : List UInt8) (typ k n u : Int) (s : ByteArray) (keys : List ByteArray) (l : List Tr) (hl : l.length ≤ 4096) (hkl4 : keys.length ≤ 4096) (hkids : ∀ x ∈ l, ∀ typ', ((shapeF typ).1 = 10 ∨ (shapeF typ).1 = 17 ∨ typ' = (Ft.elemF typ).1) → RSays d typ' x) (hkeys : (shapeF typ).1 = 17 → RKeys d keys) (hcase : (¬ (shapeF typ).1 = 17 ∧ ¬ (shapeF typ).1 = 10) ∧ (shapeF typ).2 = 0) : VecR d typ (.mk k n u s keys l) := by
  intro dv pos par wid at_ tv w hD hn ha hw
  simp only [NodeAt] at hn
  obtain ⟨hb, kv, lv, vs, rfl, hks, hrl, hkd⟩ := hn
  have hkl := hkd.length
  have HD := Lib.hid hD
  have HKS := Lib.hid hks
  have HB := Lib.hid hb
  have hdl := hD.2.1
  obtain ⟨da, dc, rfl, hdc⟩ := hD.form
  obtain ⟨a4, c4, rfl, hk1, hk2, hk3⟩ := hks
  have HRL := Lib.hid hrl
  obtain ⟨a5, c5, rfl, hl1, hl2, hl3, hl4⟩ := hrl
  rw [hkl] at HRL hl1 ⊢
  have HKD := Lib.hid hkd
  have HHK := Lib.hid hkids
  have HKY := Lib.hid hkeys
  have HW := Lib.hid hw
  have hlc : (l.length : Int) ≤ c5 := by omega
  clear hD hb hk1 hk2 hk3 hl2 hl3 hl4 hkd hkl hkids hkeys hl1
  have hw1 : 1 ≤ wid ∧ wid ≤ 8 := by rcases isW_cases hw with rfl | rfl | rfl | rfl <;> omega
  have hnw : 0 ≤ (l.length : Int) * wid ∧ (l.length : Int) * wid ≤ 32768 := by
    refine ⟨Int.mul_nonneg (by omega) (by omega), ?_⟩
    have h1 := Int.mul_le_mul (show (l.length : Int) ≤ 4096 by omega) hw1.2 (by omega) (by omega)
    omega
  have HSR := Lib.hid (shape_range typ)
  obtain ⟨q, hq⟩ : ∃ q, shapeF typ = q := ⟨_, rfl⟩
  rw [hq] at HSR
  have hshp := rkind_any typ
  rw [hq] at hshp
  have HSP := Lib.hid hshp
  clear hshp
  obtain ⟨kd, many⟩ := q
  simp only at HSR HSP
  obtain ⟨res, hres⟩ : ∃ b, listF d typ wid at_ (.mk k n u s keys l) = b := ⟨_, rfl⟩
  rw [hres]
  have HRES := Lib.hid hres
  clear hres
  rw [list_form hq] at HRES
  have HQ := Lib.hid hq
  obtain ⟨⟨h17, h10⟩, hm⟩ : (¬ kd = 17 ∧ ¬ kd = 10) ∧ many = 0 := by rw [hq] at hcase; exact hcase
  clear hcase
  clear hq
  have HG := Lib.hid (Grew.refl w)
  have hws : IntKind.i64.wrap ((l.length : Int) * wid) = (l.length : Int) * wid := by rw [IntKind.wrap_i64]; omega
  have hwe : IntKind.i64.wrap (at_ + (l.length : Int) * wid) = at_ + (l.length : Int) * wid := by rw [IntKind.wrap_i64]; omega
  have hwt : IntKind.i64.wrap (at_ + (l.length : Int) * wid + l.length) = at_ + (l.length : Int) * wid + l.length := by rw [IntKind.wrap_i64]; omega
  have hwf : IntKind.i64.wrap (at_ - wid) = at_ - wid := by rw [IntKind.wrap_i64]; omega
  have hw3 : IntKind.i64.wrap (3 * wid) = 3 * wid := by rw [IntKind.wrap_i64]; omega
  have hwm3 : IntKind.i64.wrap (at_ - 3 * wid) = at_ - 3 * wid := by rw [IntKind.wrap_i64]; omega
  have ht : Int.tmod at_ wid = at_ % wid := Int.tmod_eq_emod_of_nonneg ha.1
  have hwz : (wid == 0) = false := by rw [beq_eq_false_iff_ne]; omega
  have hm0 : 0 ≤ at_ % wid ∧ at_ % wid < 8 := ⟨Int.emod_nonneg _ (by omega), Int.lt_of_lt_of_le (Int.emod_lt_of_pos _ (by omega)) hw1.2⟩
  have hwm : IntKind.i64.wrap (at_ % wid) = at_ % wid := by rw [IntKind.wrap_i64]; omega
  obtain ⟨md, hmd⟩ : ∃ q, at_ % wid = q := ⟨_, rfl⟩
  rw [hmd] at ht hwm hm0 HRES
  clear hmd
  obtain ⟨K0, hK0⟩ : ∃ b, kidsF d typ wid at_ l.length 0 l = b := ⟨_, rfl⟩
  rw [hK0] at HRES
  have HK0 := Lib.hid hK0
  clear hK0
  go_enter Try.func59, Try.ntmps59
  go_upto_region 1 with fail
  obtain ⟨pr, hpr⟩ : ∃ N, w.heap.size = N := ⟨_, rfl⟩
  have HPR := Lib.hid hpr
  have hr1 := heap_alloc_new w (.cells #[.int .i64 pos, .int .i64 par, .int .i64 typ, .int .i64 wid] 35)
  have hga := (Grew.refl w).alloc (.cells #[.int .i64 pos, .int .i64 par, .int .i64 typ, .int .i64 wid] 35)
  have hz1 : (w.alloc (.cells #[.int .i64 pos, .int .i64 par, .int .i64 typ, .int .i64 wid] 35)).heap.size = pr + 1 := by rw [World.size_alloc, hpr]
  generalize (w.alloc (.cells #[.int .i64 pos, .int .i64 par, .int .i64 typ, .int .i64 wid] 35)) = x1 at *
  rw [hpr] at hr1 ⊢
  have hr2 := heap_alloc_new x1 (.cells #[.int .i64 k, .int .i64 n, .int .u64 u, .string s, .slice a4 keys.length c4, .slice a5 l.length c5] 27)
  have hgb := (Grew.refl x1).alloc (.cells #[.int .i64 k, .int .i64 n, .int .u64 u, .string s, .slice a4 keys.length c4, .slice a5 l.length c5] 27)
  generalize (x1.alloc (.cells #[.int .i64 k, .int .i64 n, .int .u64 u, .string s, .slice a4 keys.length c4, .slice a5 l.length c5] 27)) = x2 at *
  rw [hz1] at hr2
  try rw [hz1]
  have HRR := Lib.hid (hgb.heap hr1)
  have HRT := Lib.hid hr2
  replace HG := Lib.hid (hga.trans hgb)
  clear hr1 hr2 hz1 hpr hga hgb
  have c0 := row_cellT HRR.out 0 _ rfl
  have c1 := row_cellT HRR.out 1 _ rfl
  have c2 := row_cellT HRR.out 2 _ rfl
  have c3 := row_cellT HRR.out 3 _ rfl
  have e0 := row_cellT HRT.out 0 _ rfl
  have e1 := row_cellT HRT.out 1 _ rfl
  have e2 := row_cellT HRT.out 2 _ rfl
  have e3 := row_cellT HRT.out 3 _ rfl
  have e4 := row_cellT HRT.out 4 _ rfl
  have e5 := row_cellT HRT.out 5 _ rfl
  go_wp2_with fail
  refine (HSP.out x2).mono ?_
  rintro r u1 ⟨rfl, hgc⟩
  clear c0 c1 c2 c3
  clear e0 e1 e2 e3 e4 e5
  replace HRR := Lib.hid (hgc.heap HRR.out)
  replace HRT := Lib.hid (hgc.heap HRT.out)
  replace HG := Lib.hid (HG.out.trans hgc)
  clear hgc
  have c0 := row_cellT HRR.out 0 _ rfl
  have c1 := row_cellT HRR.out 1 _ rfl
  have c2 := row_cellT HRR.out 2 _ rfl
  have c3 := row_cellT HRR.out 3 _ rfl
  have e0 := row_cellT HRT.out 0 _ rfl
  have e1 := row_cellT HRT.out 1 _ rfl
  have e2 := row_cellT HRT.out 2 _ rfl
  have e3 := row_cellT HRT.out 3 _ rfl
  have e4 := row_cellT HRT.out 4 _ rfl
  have e5 := row_cellT HRT.out 5 _ rfl
  subst hm
  have hb17 : (kd == 17) = false := by simpa using h17
  have hb10 : (kd == 10) = false := by simpa using h10
  have hbn17 : (kd != 17) = true := by simpa using h17
  have HN := Lib.hid (And.intro h17 h10)
  clear h17 h10
  have htg : taggedB kd = false := by unfold taggedB; rw [decide_eq_false HN.out.1, decide_eq_false HN.out.2]; rfl
  have HTG := Lib.hid htg
  clear htg
  have HRS : Hid (res = (decide (k = kd) && decide (n = 0) && decide (u = 0) && decide (s = EMB) && decide (keys.length = 0) && decide (md = 0) && decide (at_ + (l.length : Int) * wid ≤ d.length) && ((numF d (at_ - wid) wid).2 && decide ((numF d (at_ - wid) wid).1 = l.length)) && true && K0)) := by show _ = _; rw [← HRES.out, if_neg HN.out.1, if_neg HN.out.1, HTG.out, if_pos rfl]; simp [bareF, Tr.kind, Tr.fn, Tr.fu, Tr.fs, Tr.keys, Tr.kids, Bool.and_assoc, -List.length_eq_zero_iff] <;> (try rfl)
  by_cases hck : k = kd
  rotate_left
  · have hbx : (k != kd) = true := by simpa using hck
    have HV : Hid (res = false) := by show _ = _; rw [HRS.out]; simp [hck]
    go_wp2_with fail
    go_ret
    exact ⟨by rw [HV.out]; rfl, HG.out⟩
  have hbk0 : (k != kd) = false := by simpa using hck
  by_cases hcn : n = 0
  rotate_left
  · have hbx : (n != 0) = true := by simpa using hcn
    have HV : Hid (res = false) := by show _ = _; rw [HRS.out]; simp [hcn]
    go_wp2_with fail
    go_ret
    exact ⟨by rw [HV.out]; rfl, HG.out⟩
  have hbn0 : (n != 0) = false := by simpa using hcn
  by_cases hcu : u = 0
  rotate_left
  · have hbx : (u != 0) = true := by simpa using hcu
    have HV : Hid (res = false) := by show _ = _; rw [HRS.out]; simp [hcu]
    go_wp2_with fail
    go_ret
    exact ⟨by rw [HV.out]; rfl, HG.out⟩
  have hbu0 : (u != 0) = false := by simpa using hcu
  by_cases hcs : s = EMB
  rotate_left
  · have hbx : ¬ s.toList = [] := fun h => hcs ((toList_nil s).1 h)
    have HV : Hid (res = false) := by show _ = _; rw [HRS.out]; simp [hcs]
    go_wp2_with fail
    go_ret
    exact ⟨by rw [HV.out]; rfl, HG.out⟩
  have hbs0 : s.toList = [] := (toList_nil s).2 hcs
  have HCS := Lib.hid hcs
  clear hcs
  by_cases hcl : keys = []
  rotate_left
  · have HV : Hid (res = false) := by show _ = _; rw [HRS.out]; simp [hcl]
    have hbx : 0 < keys.length := List.length_pos_iff.2 hcl
    clear hcl
    go_wp2_with fail
    go_ret
    exact ⟨by rw [HV.out]; rfl, HG.out⟩
  subst hcl
  by_cases hmd0 : md = 0
  rotate_left
  · have hbx : (md != 0) = true := by simpa using hmd0
    have HV : Hid (res = false) := by show _ = _; rw [HRS.out]; simp [hmd0]
    go_wp2_with fail
    go_ret
    exact ⟨by rw [HV.out]; rfl, HG.out⟩
  subst hmd0
  have HRS1 : Hid (res = (decide (at_ + (l.length : Int) * wid ≤ d.length) && ((numF d (at_ - wid) wid).2 && decide ((numF d (at_ - wid) wid).1 = l.length)) && true && K0)) := by show _ = _; rw [HRS.out]; simp [hck, hcn, hcu, HCS.out]
  clear hck hcn hcu
  replace HRS := HRS1
  obtain ⟨nn, hnn⟩ : ∃ q, numF d (at_ - wid) wid = q := ⟨_, rfl⟩
  have hnum := r27num_any d (.slice da d.length dc) (at_ - wid) wid
  unfold numR at hnum
  rw [hnn] at HRS hnum
  have HNU := Lib.hid hnum
  clear hnn hnum
  obtain ⟨nv, ni⟩ := nn
  simp only at HRS HNU
  go_wp2_with fail
  refine (HNU.out u1 (HD.out.grew HG.out)).mono ?_
  rintro r u2 ⟨rfl, rfl⟩
  cases ni
  · simp only [Bool.false_eq_true, if_false]
    have HV : Hid (res = false) := by show _ = _; rw [HRS.out]; simp
    go_wp2_with fail
    go_ret
    exact ⟨by rw [HV.out]; rfl, HG.out⟩
  simp only [if_true]
  by_cases hnv : nv = (l.length : Int)
  rotate_left
  · have hbx : (nv != (l.length : Int)) = true := by simpa using hnv
    have HV : Hid (res = false) := by show _ = _; rw [HRS.out]; simp [hnv]
    go_wp2_with fail
    go_ret
    exact ⟨by rw [HV.out]; rfl, HG.out⟩
  have hbx : (nv != (l.length : Int)) = false := by simpa using hnv
  by_cases hend : at_ + (l.length : Int) * wid ≤ d.length
  rotate_left
  · have hgt : (d.length : Int) < at_ + (l.length : Int) * wid := by omega
    have HV : Hid (res = false) := by show _ = _; rw [HRS.out]; simp [hend]
    go_wp2_with fail
    go_ret
    exact ⟨by rw [HV.out]; rfl, HG.out⟩
  have HRS2 : Hid (res = K0) := by show _ = _; rw [HRS.out]; simp [hnv, hend]
  clear hnv
  have hngt : ¬ (d.length : Int) < at_ + (l.length : Int) * wid := by omega
  have hel := relem_any typ
  obtain ⟨el, hel2⟩ : ∃ e, Ft.elemF typ = e := ⟨_, rfl⟩
  rw [hel2] at hel
  have HEL := Lib.hid hel
  have HEQ := Lib.hid hel2
  clear hel hel2
  obtain ⟨el1, el2, el3⟩ := el
  simp only at HEL
  have HFI : Hid (firstF typ wid at_ = at_ - wid) := by show _ = _; unfold firstF; rw [HQ.out]; simp only; rw [if_neg HN.out.1]; rfl
  have HEO : Hid (∀ i : Nat, elemOf d typ wid at_ l.length i = (el1, wid, 0)) := fun i => by unfold elemOf; rw [HQ.out, HEQ.out]; simp only; rw [HTG.out]; rfl
  have HEND : Hid (at_ + (l.length : Int) * wid ≤ d.length) := hend
  have HRR0 := HRR
  have HRT0 := HRT
  go_upto_region 23 with fail
  clear c0 c1 c2 c3
  clear e0 e1 e2 e3 e4 e5
  go_wp2_with fail
  go_loopw [17] (fun i wr => ∃ kk : Nat, kk ≤ l.length ∧ i = .int .i64 kk ∧ Hid (Grew u2 wr ∧ K0 = kidsF d typ wid at_ l.length kk (l.drop kk))) (fun i _ => l.length - (intOf i).toNat)
  case atStart => exact ⟨0, Nat.zero_le _, rfl, by show _ ∧ _; exact ⟨Grew.refl _, by rw [List.drop_zero]; exact HK0.out.symm⟩⟩
  case round =>
    obtain ⟨kk, hkk, rfl, HL⟩ := hrel
    have HGW := Lib.hid (HG.out.trans HL.out.1)
    have HRRW := Lib.hid (HL.out.1.heap HRR0.out)
    have HRTW := Lib.hid (HL.out.1.heap HRT0.out)
    by_cases hlt : kk < l.length
    rotate_left
    · have ek : kk = l.length := by omega
      have HV : Hid (res = true) := by show _ = _; rw [HRS2.out, HL.out.2, ek, List.drop_length]; rfl
      subst ek
      clear hlt
      go_wp2_with fail
      go_ret
      exact ⟨by rw [HV.out]; rfl, HGW.out⟩
    obtain ⟨x, hx⟩ : ∃ x, l[kk]? = some x := ⟨_, List.getElem?_eq_getElem hlt⟩
    obtain ⟨xv, hxv, hnx⟩ := HKD.out.get hx
    have hxm : x ∈ l := List.mem_of_getElem? hx
    have HDR : Hid (l.drop kk = x :: l.drop (kk + 1)) := by show _ = _; rw [List.drop_eq_getElem_cons hlt]; congr 1; rw [List.getElem?_eq_getElem hlt] at hx; injection hx
    obtain ⟨b, off, rfl, hc6⟩ : ∃ b off, a5 = some ⟨b, off, none⟩ ∧ Cells6 wr b (off + kk * 6) xv := by
      obtain ⟨a, c, e, _, _, _, h⟩ := HRL.out
      injection e with e1 e2 e3
      subst e1
      obtain ⟨b, off, e, h6⟩ := h kk xv hxv
      exact ⟨b, off, e, h6.grew HGW.out⟩
    obtain ⟨xk, xn, xu, xs, xa4, xn4, xc4, xa5, xn5, xc5, rfl⟩ := hnx.node6
    have HC6 := Lib.hid hc6
    have HNX := Lib.hid (hnx.grew HGW.out)
    have hlti : (kk : Int) < l.length := by omega
    have hkw : 0 ≤ (kk : Int) * wid ∧ (kk : Int) * wid ≤ 32768 := by
      refine ⟨Int.mul_nonneg (by omega) (by omega), ?_⟩
      have h1 := Int.mul_le_mul (show (kk : Int) ≤ 4096 by omega) hw1.2 (by omega) (by omega)
      omega
    have hwk : IntKind.i64.wrap ((kk : Int) * wid) = (kk : Int) * wid := by rw [IntKind.wrap_i64]; omega
    have hwk2 : IntKind.i64.wrap (at_ + (kk : Int) * wid) = at_ + (kk : Int) * wid := by rw [IntKind.wrap_i64]; omega
    have HSX := Lib.hid (HHK.out x hxm)
    clear hc6 hx hxv hnx hxm
    have c2 := row_cellT HRRW.out 2 _ rfl
    go_wp2_with fail
    refine (HEL.out wr).mono ?_
    rintro r wq ⟨rfl, e⟩
    rw [e]
    clear e wq c2
    go_upto_region 33 with fail
    have hry := heap_alloc_new wr (.cells #[.int .i64 (at_ + (kk : Int) * wid), .int .i64 wid, .int .i64 el1, .int .i64 wid] 35)
    have hgy := (Grew.refl wr).alloc (.cells #[.int .i64 (at_ + (kk : Int) * wid), .int .i64 wid, .int .i64 el1, .int .i64 wid] 35)
    generalize (wr.alloc (.cells #[.int .i64 (at_ + (kk : Int) * wid), .int .i64 wid, .int .i64 el1, .int .i64 wid] 35)) = y1 at *
    obtain ⟨px, hpx⟩ : ∃ N, wr.heap.size = N := ⟨_, rfl⟩
    rw [hpx] at hry ⊢
    have HRY := Lib.hid hry
    have HGY := Lib.hid hgy
    clear hry hgy hpx
    have e5 := HGY.out.cell (row_cellT HRTW.out 5 _ rfl)
    obtain ⟨f0, f1, f2, f3, f4, f5⟩ := (HC6.out.grew HGY.out).get
    have g0 := row_cellT HRY.out 0 _ rfl
    have g1 := row_cellT HRY.out 1 _ rfl
    have g2 := row_cellT HRY.out 2 _ rfl
    have g3 := row_cellT HRY.out 3 _ rfl
    have hsay := fun w2 (h : Grew y1 w2) => HSX.out el1 (.inr (.inr (by rw [HEQ.out]))) (.slice da d.length dc) (at_ + (kk : Int) * wid) wid wid (at_ - wid) _ w2 (HD.out.grew (HGW.out.trans (HGY.out.trans h))) (HNX.out.grew (HGY.out.trans h)) (by unfold i64ok; omega)
    obtain ⟨sB, hsB⟩ : ∃ b, saysF d el1 (at_ + (kk : Int) * wid) wid wid (at_ - wid) x = b := ⟨_, rfl⟩
    rw [hsB] at hsay
    have HKX : Hid (K0 = (sB && kidsF d typ wid at_ l.length (kk + 1) (l.drop (kk + 1)))) := by show _ = _; rw [HL.out.2, HDR.out, kidsF, HEO.out]; simp only; rw [HFI.out, hsB]; rfl
    have HSAY := Lib.hid hsay
    clear hsay hsB
    refine wp_region_tables Grew [[], [], [], [], [3], [], [3, 4, 5], [3, 4, 5, 6], [0, 1, 2, 3, 4, 5, 6, 7], [0, 1, 2, 3, 4, 5, 6, 7, 8]] [[(190, 1), (191, 2), (192, 3), (193, 4), (194, 5), (195, 6), (196, 7)], [(189, 0), (191, 2), (192, 3), (193, 4), (194, 5), (195, 6), (196, 7)], [(189, 0), (190, 1), (192, 3), (193, 4), (194, 5), (195, 6), (196, 7)], [(189, 0), (190, 1), (191, 2), (194, 5)], [(189, 0), (190, 1), (191, 2), (192, 3), (194, 5)], [(189, 0), (190, 1), (191, 2), (192, 3), (193, 4)], [(189, 0), (190, 1), (191, 2), (192, 3), (193, 4), (194, 5)], [(189, 0), (190, 1), (191, 2), (192, 3), (193, 4), (194, 5), (195, 6)], [(189, 0), (190, 1), (191, 2), (192, 3), (193, 4), (194, 5), (195, 6), (196, 7)], [(189, 0), (190, 1), (191, 2), (192, 3), (193, 4), (194, 5), (195, 6), (196, 7), (197, 8)]] [(189, 0), (190, 1), (191, 2), (192, 3), (193, 4), (194, 5), (195, 6), (196, 7), (197, 8), (198, 9)]
      [Is (.slice da d.length dc), Is (.agg #[.int .i64 (at_ + (kk : Int) * wid), .int .i64 wid, .int .i64 el1, .int .i64 wid]), Is (.int .i64 (at_ - wid)), Is (.pointer (some ⟨pr + 1, 5, none⟩)), Is (.slice (some ⟨b, off, none⟩) l.length c5), Is (.int .i64 (kk : Int)), Is (.pointer (some ⟨b, off + kk * 6, none⟩)), Is (.agg #[.int .i64 xk, .int .i64 xn, .int .u64 xu, .string xs, .slice xa4 xn4 xc4, .slice xa5 xn5 xc5]), Is (.bool sB), Is (.bool (!sB))]
      (by kernel_rfl) Grew.trans Grew.refl (Grew.refl _).drew (by kernel_rfl) ⟨is_st, is_st, is_st, is_st, is_st, is_st, is_st, is_st, is_st, is_st, trivial⟩ ?_ rfl ?_
    rotate_left
    · intro y w2 hG hF
      simp only [factsH, Is, and_true, Nat.reduceAdd] at hF
      have hlast := hF.2.2.2.2.2.2.2.2.2
      clear hF
      simp only [fillL, Act.put, List.setIfInBounds_toArray, List.set_cons_zero, List.set_cons_succ, List.getD_cons_zero, List.getD_cons_succ, hlast]
      have HG6 := Lib.hid (HGY.out.trans hG)
      clear hG hlast f0 f1 f2 f3 f4 f5 g0 g1 g2 g3 e5
      cases sB
      · have HV : Hid (res = false) := by show _ = _; rw [HRS2.out, HKX.out]; rfl
        have HGF := Lib.hid (HGW.out.trans HG6.out)
        go_wp2_with fail
        go_ret
        exact ⟨by rw [HV.out]; rfl, HGF.out⟩
      · go_wp2_with fail
        go_roundw
        case rel => exact ⟨kk + 1, by omega, by go_num, by
          show _ ∧ _
          exact ⟨HL.out.1.trans HG6.out, by rw [HKX.out]; rfl⟩⟩
        case measure => simp [intOf]; omega
    refine ⟨?_, ?_⟩
    · intro y w2 hG hD K hK
      simp only [fillL, Act.put, List.setIfInBounds_toArray, List.set_cons_zero, List.set_cons_succ, List.getD_cons_zero, List.getD_cons_succ, Is] at hK ⊢
      refine ite_yes (by rfl) ?_
      go_simp
      exact hK _ _ _ rfl (Grew.refl _) rfl
    refine ⟨?_, ?_⟩
    · intro y w2 hG hD K hK
      have dg0 := hG.cell g0
      have dg1 := hG.cell g1
      have dg2 := hG.cell g2
      have dg3 := hG.cell g3
      simp only [fillL, Act.put, List.setIfInBounds_toArray, List.set_cons_zero, List.set_cons_succ, List.getD_cons_zero, List.getD_cons_succ, Is] at hK ⊢
      refine ite_yes (by rfl) ?_
      go_simp
      exact hK _ _ _ rfl (Grew.refl _) rfl
    refine ⟨?_, ?_⟩
    · intro y w2 hG hD K hK
      simp only [fillL, Act.put, List.setIfInBounds_toArray, List.set_cons_zero, List.set_cons_succ, List.getD_cons_zero, List.getD_cons_succ, Is] at hK ⊢
      refine ite_yes (by rfl) ?_
      go_simp
      exact hK _ _ _ rfl (Grew.refl _) rfl
    refine ⟨?_, ?_⟩
    · intro y w2 hG hD K hK
      simp only [fillL, Act.put, List.setIfInBounds_toArray, List.set_cons_zero, List.set_cons_succ, List.getD_cons_zero, List.getD_cons_succ, Is] at hK ⊢
      refine ite_yes (by rfl) ?_
      go_simp
      exact hK _ _ _ rfl (Grew.refl _) rfl
    refine ⟨?_, ?_⟩
    · intro y w2 hG hD K hK
      simp only [depsH, List.getD_cons_zero, List.getD_cons_succ, Is, and_true] at hD
      have h3 := hD
      clear hD
      have de5 := hG.cell e5
      simp only [fillL, Act.put, List.setIfInBounds_toArray, List.set_cons_zero, List.set_cons_succ, List.getD_cons_zero, List.getD_cons_succ, Is] at hK ⊢
      simp only [h3] at hK ⊢
      clear h3
      refine ite_yes (by rfl) ?_
      go_simp
      exact hK _ _ _ rfl (Grew.refl _) rfl
    refine ⟨?_, ?_⟩
    · intro y w2 hG hD K hK
      simp only [fillL, Act.put, List.setIfInBounds_toArray, List.set_cons_zero, List.set_cons_succ, List.getD_cons_zero, List.getD_cons_succ, Is] at hK ⊢
      refine ite_yes (by rfl) ?_
      go_simp
      exact hK _ _ _ rfl (Grew.refl _) rfl
    refine ⟨?_, ?_⟩
    · intro y w2 hG hD K hK
      simp only [depsH, List.getD_cons_zero, List.getD_cons_succ, Is, and_true] at hD
      have h3 := hD.1
      have h4 := hD.2.1
      have h5 := hD.2.2
      clear hD
      simp only [fillL, Act.put, List.setIfInBounds_toArray, List.set_cons_zero, List.set_cons_succ, List.getD_cons_zero, List.getD_cons_succ, Is] at hK ⊢
      simp only [h3, h4, h5] at hK ⊢
      clear h3 h4 h5
      refine ite_yes (by rfl) ?_
      go_simp
      exact hK _ _ _ rfl (Grew.refl _) rfl
    refine ⟨?_, ?_⟩
    · intro y w2 hG hD K hK
      simp only [depsH, List.getD_cons_zero, List.getD_cons_succ, Is, and_true] at hD
      have h3 := hD.1
      have h4 := hD.2.1
      have h5 := hD.2.2.1
      have h6 := hD.2.2.2
      clear hD
      have df0 := hG.cell f0
      have df1 := hG.cell f1
      have df2 := hG.cell f2
      have df3 := hG.cell f3
      have df4 := hG.cell f4
      have df5 := hG.cell f5
      simp only [fillL, Act.put, List.setIfInBounds_toArray, List.set_cons_zero, List.set_cons_succ, List.getD_cons_zero, List.getD_cons_succ, Is] at hK ⊢
      simp only [h3, h4, h5, h6] at hK ⊢
      clear h3 h4 h5 h6
      refine ite_yes (by rfl) ?_
      go_simp
      exact hK _ _ _ rfl (Grew.refl _) rfl
    refine ⟨?_, ?_⟩
    · intro y w2 hG hD K hK
      simp only [depsH, List.getD_cons_zero, List.getD_cons_succ, Is, and_true] at hD
      have h0 := hD.1
      have h1 := hD.2.1
      have h2 := hD.2.2.1
      have h3 := hD.2.2.2.1
      have h4 := hD.2.2.2.2.1
      have h5 := hD.2.2.2.2.2.1
      have h6 := hD.2.2.2.2.2.2.1
      have h7 := hD.2.2.2.2.2.2.2
      clear hD
      simp only [fillL, Act.put, List.setIfInBounds_toArray, List.set_cons_zero, List.set_cons_succ, List.getD_cons_zero, List.getD_cons_succ, Is] at hK ⊢
      simp only [h0, h1, h2, h3, h4, h5, h6, h7] at hK ⊢
      clear h0 h1 h2 h3 h4 h5 h6 h7
      refine ite_yes (by rfl) ?_
      go_simp
      refine (HSAY.out w2 hG).mono ?_
      rintro r w3 ⟨rfl, hg3⟩
      exact hK _ _ _ rfl hg3 rfl
    refine ⟨?_, ?_⟩
    · intro y w2 hG hD K hK
      simp only [depsH, List.getD_cons_zero, List.getD_cons_succ, Is, and_true] at hD
      have h0 := hD.1
      have h1 := hD.2.1
      have h2 := hD.2.2.1
      have h3 := hD.2.2.2.1
      have h4 := hD.2.2.2.2.1
      have h5 := hD.2.2.2.2.2.1
      have h6 := hD.2.2.2.2.2.2.1
      have h7 := hD.2.2.2.2.2.2.2.1
      have h8 := hD.2.2.2.2.2.2.2.2
      clear hD
      simp only [fillL, Act.put, List.setIfInBounds_toArray, List.set_cons_zero, List.set_cons_succ, List.getD_cons_zero, List.getD_cons_succ, Is] at hK ⊢
      simp only [h0, h1, h2, h3, h4, h5, h6, h7, h8] at hK ⊢
      clear h0 h1 h2 h3 h4 h5 h6 h7 h8
      refine ite_yes (by rfl) ?_
      go_simp
      exact hK _ _ _ rfl (Grew.refl _) rfl
    trivial
end Go.Proofs.Ytlhliolknaopjaa

/-
  Denote: the reference's vector at a fixed vector, where says and keys are given. Conditions: the bytes, the tree lie in memory; the tree is small.
-/
namespace Go.Proofs.Ytlhliolknaopjaa
open Go Go.ChangeShapes Go.WideShapes Go.ChangeAt Go.RowKit Go.Joins Go.Deep
set_option linter.unusedVariables false
set_option linter.unusedSimpArgs false

set_option maxRecDepth 100000 in
set_option maxHeartbeats 4000000 in
theorem vec_walkD (d : List UInt8) (typ k n u : Int) (s : ByteArray) (keys : List ByteArray) (l : List Tr) (hl : l.length ≤ 4096) (hkl4 : keys.length ≤ 4096) (hkids : ∀ x ∈ l, ∀ typ', ((shapeF typ).1 = 10 ∨ (shapeF typ).1 = 17 ∨ typ' = (Ft.elemF typ).1) → RSays d typ' x) (hkeys : (shapeF typ).1 = 17 → RKeys d keys) (hcase : (¬ (shapeF typ).1 = 17 ∧ ¬ (shapeF typ).1 = 10) ∧ ¬ (shapeF typ).2 = 0) : VecR d typ (.mk k n u s keys l) := by
  intro dv pos par wid at_ tv w hD hn ha hw
  simp only [NodeAt] at hn
  obtain ⟨hb, kv, lv, vs, rfl, hks, hrl, hkd⟩ := hn
  have hkl := hkd.length
  have HD := Lib.hid hD
  have HKS := Lib.hid hks
  have HB := Lib.hid hb
  have hdl := hD.2.1
  obtain ⟨da, dc, rfl, hdc⟩ := hD.form
  obtain ⟨a4, c4, rfl, hk1, hk2, hk3⟩ := hks
  have HRL := Lib.hid hrl
  obtain ⟨a5, c5, rfl, hl1, hl2, hl3, hl4⟩ := hrl
  rw [hkl] at HRL hl1 ⊢
  have HKD := Lib.hid hkd
  have HHK := Lib.hid hkids
  have HKY := Lib.hid hkeys
  have HW := Lib.hid hw
  have hlc : (l.length : Int) ≤ c5 := by omega
  clear hD hb hk1 hk2 hk3 hl2 hl3 hl4 hkd hkl hkids hkeys hl1
  have hw1 : 1 ≤ wid ∧ wid ≤ 8 := by rcases isW_cases hw with rfl | rfl | rfl | rfl <;> omega
  have hnw : 0 ≤ (l.length : Int) * wid ∧ (l.length : Int) * wid ≤ 32768 := by
    refine ⟨Int.mul_nonneg (by omega) (by omega), ?_⟩
    have h1 := Int.mul_le_mul (show (l.length : Int) ≤ 4096 by omega) hw1.2 (by omega) (by omega)
    omega
  have HSR := Lib.hid (shape_range typ)
  obtain ⟨q, hq⟩ : ∃ q, shapeF typ = q := ⟨_, rfl⟩
  rw [hq] at HSR
  have hshp := rkind_any typ
  rw [hq] at hshp
  have HSP := Lib.hid hshp
  clear hshp
  obtain ⟨kd, many⟩ := q
  simp only at HSR HSP
  obtain ⟨res, hres⟩ : ∃ b, listF d typ wid at_ (.mk k n u s keys l) = b := ⟨_, rfl⟩
  rw [hres]
  have HRES := Lib.hid hres
  clear hres
  rw [list_form hq] at HRES
  have HQ := Lib.hid hq
  obtain ⟨⟨h17, h10⟩, hm⟩ : (¬ kd = 17 ∧ ¬ kd = 10) ∧ ¬ many = 0 := by rw [hq] at hcase; exact hcase
  clear hcase
  clear hq
  have HG := Lib.hid (Grew.refl w)
  have hws : IntKind.i64.wrap ((l.length : Int) * wid) = (l.length : Int) * wid := by rw [IntKind.wrap_i64]; omega
  have hwe : IntKind.i64.wrap (at_ + (l.length : Int) * wid) = at_ + (l.length : Int) * wid := by rw [IntKind.wrap_i64]; omega
  have hwt : IntKind.i64.wrap (at_ + (l.length : Int) * wid + l.length) = at_ + (l.length : Int) * wid + l.length := by rw [IntKind.wrap_i64]; omega
  have hwf : IntKind.i64.wrap (at_ - wid) = at_ - wid := by rw [IntKind.wrap_i64]; omega
  have hw3 : IntKind.i64.wrap (3 * wid) = 3 * wid := by rw [IntKind.wrap_i64]; omega
  have hwm3 : IntKind.i64.wrap (at_ - 3 * wid) = at_ - 3 * wid := by rw [IntKind.wrap_i64]; omega
  have ht : Int.tmod at_ wid = at_ % wid := Int.tmod_eq_emod_of_nonneg ha.1
  have hwz : (wid == 0) = false := by rw [beq_eq_false_iff_ne]; omega
  have hm0 : 0 ≤ at_ % wid ∧ at_ % wid < 8 := ⟨Int.emod_nonneg _ (by omega), Int.lt_of_lt_of_le (Int.emod_lt_of_pos _ (by omega)) hw1.2⟩
  have hwm : IntKind.i64.wrap (at_ % wid) = at_ % wid := by rw [IntKind.wrap_i64]; omega
  obtain ⟨md, hmd⟩ : ∃ q, at_ % wid = q := ⟨_, rfl⟩
  rw [hmd] at ht hwm hm0 HRES
  clear hmd
  obtain ⟨K0, hK0⟩ : ∃ b, kidsF d typ wid at_ l.length 0 l = b := ⟨_, rfl⟩
  rw [hK0] at HRES
  have HK0 := Lib.hid hK0
  clear hK0
  go_enter Try.func59, Try.ntmps59
  go_upto_region 1 with fail
  obtain ⟨pr, hpr⟩ : ∃ N, w.heap.size = N := ⟨_, rfl⟩
  have HPR := Lib.hid hpr
  have hr1 := heap_alloc_new w (.cells #[.int .i64 pos, .int .i64 par, .int .i64 typ, .int .i64 wid] 35)
  have hga := (Grew.refl w).alloc (.cells #[.int .i64 pos, .int .i64 par, .int .i64 typ, .int .i64 wid] 35)
  have hz1 : (w.alloc (.cells #[.int .i64 pos, .int .i64 par, .int .i64 typ, .int .i64 wid] 35)).heap.size = pr + 1 := by rw [World.size_alloc, hpr]
  generalize (w.alloc (.cells #[.int .i64 pos, .int .i64 par, .int .i64 typ, .int .i64 wid] 35)) = x1 at *
  rw [hpr] at hr1 ⊢
  have hr2 := heap_alloc_new x1 (.cells #[.int .i64 k, .int .i64 n, .int .u64 u, .string s, .slice a4 keys.length c4, .slice a5 l.length c5] 27)
  have hgb := (Grew.refl x1).alloc (.cells #[.int .i64 k, .int .i64 n, .int .u64 u, .string s, .slice a4 keys.length c4, .slice a5 l.length c5] 27)
  generalize (x1.alloc (.cells #[.int .i64 k, .int .i64 n, .int .u64 u, .string s, .slice a4 keys.length c4, .slice a5 l.length c5] 27)) = x2 at *
  rw [hz1] at hr2
  try rw [hz1]
  have HRR := Lib.hid (hgb.heap hr1)
  have HRT := Lib.hid hr2
  replace HG := Lib.hid (hga.trans hgb)
  clear hr1 hr2 hz1 hpr hga hgb
  have c0 := row_cellT HRR.out 0 _ rfl
  have c1 := row_cellT HRR.out 1 _ rfl
  have c2 := row_cellT HRR.out 2 _ rfl
  have c3 := row_cellT HRR.out 3 _ rfl
  have e0 := row_cellT HRT.out 0 _ rfl
  have e1 := row_cellT HRT.out 1 _ rfl
  have e2 := row_cellT HRT.out 2 _ rfl
  have e3 := row_cellT HRT.out 3 _ rfl
  have e4 := row_cellT HRT.out 4 _ rfl
  have e5 := row_cellT HRT.out 5 _ rfl
  go_wp2_with fail
  refine (HSP.out x2).mono ?_
  rintro r u1 ⟨rfl, hgc⟩
  clear c0 c1 c2 c3
  clear e0 e1 e2 e3 e4 e5
  replace HRR := Lib.hid (hgc.heap HRR.out)
  replace HRT := Lib.hid (hgc.heap HRT.out)
  replace HG := Lib.hid (HG.out.trans hgc)
  clear hgc
  have c0 := row_cellT HRR.out 0 _ rfl
  have c1 := row_cellT HRR.out 1 _ rfl
  have c2 := row_cellT HRR.out 2 _ rfl
  have c3 := row_cellT HRR.out 3 _ rfl
  have e0 := row_cellT HRT.out 0 _ rfl
  have e1 := row_cellT HRT.out 1 _ rfl
  have e2 := row_cellT HRT.out 2 _ rfl
  have e3 := row_cellT HRT.out 3 _ rfl
  have e4 := row_cellT HRT.out 4 _ rfl
  have e5 := row_cellT HRT.out 5 _ rfl
  have hb17 : (kd == 17) = false := by simpa using h17
  have hb10 : (kd == 10) = false := by simpa using h10
  have hbn17 : (kd != 17) = true := by simpa using h17
  have HN := Lib.hid (And.intro h17 h10)
  have hbm : (many == 0) = false := by simpa using hm
  have HMN := Lib.hid hm
  clear h17 h10 hm
  have htg : taggedB kd = false := by unfold taggedB; rw [decide_eq_false HN.out.1, decide_eq_false HN.out.2]; rfl
  have HTG := Lib.hid htg
  clear htg
  have HRS : Hid (res = (decide (k = kd) && decide (n = 0) && decide (u = 0) && decide (s = EMB) && decide (keys.length = 0) && decide (md = 0) && decide (at_ + (l.length : Int) * wid ≤ d.length) && decide ((l.length : Int) = many) && true && K0)) := by show _ = _; rw [← HRES.out, if_neg HN.out.1, if_neg HN.out.1, HTG.out, if_neg HMN.out]; simp [bareF, Tr.kind, Tr.fn, Tr.fu, Tr.fs, Tr.keys, Tr.kids, Bool.and_assoc, -List.length_eq_zero_iff] <;> (try rfl)
  by_cases hck : k = kd
  rotate_left
  · have hbx : (k != kd) = true := by simpa using hck
    have HV : Hid (res = false) := by show _ = _; rw [HRS.out]; simp [hck]
    go_wp2_with fail
    go_ret
    exact ⟨by rw [HV.out]; rfl, HG.out⟩
  have hbk0 : (k != kd) = false := by simpa using hck
  by_cases hcn : n = 0
  rotate_left
  · have hbx : (n != 0) = true := by simpa using hcn
    have HV : Hid (res = false) := by show _ = _; rw [HRS.out]; simp [hcn]
    go_wp2_with fail
    go_ret
    exact ⟨by rw [HV.out]; rfl, HG.out⟩
  have hbn0 : (n != 0) = false := by simpa using hcn
  by_cases hcu : u = 0
  rotate_left
  · have hbx : (u != 0) = true := by simpa using hcu
    have HV : Hid (res = false) := by show _ = _; rw [HRS.out]; simp [hcu]
    go_wp2_with fail
    go_ret
    exact ⟨by rw [HV.out]; rfl, HG.out⟩
  have hbu0 : (u != 0) = false := by simpa using hcu
  by_cases hcs : s = EMB
  rotate_left
  · have hbx : ¬ s.toList = [] := fun h => hcs ((toList_nil s).1 h)
    have HV : Hid (res = false) := by show _ = _; rw [HRS.out]; simp [hcs]
    go_wp2_with fail
    go_ret
    exact ⟨by rw [HV.out]; rfl, HG.out⟩
  have hbs0 : s.toList = [] := (toList_nil s).2 hcs
  have HCS := Lib.hid hcs
  clear hcs
  by_cases hcl : keys = []
  rotate_left
  · have HV : Hid (res = false) := by show _ = _; rw [HRS.out]; simp [hcl]
    have hbx : 0 < keys.length := List.length_pos_iff.2 hcl
    clear hcl
    go_wp2_with fail
    go_ret
    exact ⟨by rw [HV.out]; rfl, HG.out⟩
  subst hcl
  by_cases hmd0 : md = 0
  rotate_left
  · have hbx : (md != 0) = true := by simpa using hmd0
    have HV : Hid (res = false) := by show _ = _; rw [HRS.out]; simp [hmd0]
    go_wp2_with fail
    go_ret
    exact ⟨by rw [HV.out]; rfl, HG.out⟩
  subst hmd0
  have HRS1 : Hid (res = (decide (at_ + (l.length : Int) * wid ≤ d.length) && decide ((l.length : Int) = many) && true && K0)) := by show _ = _; rw [HRS.out]; simp [hck, hcn, hcu, HCS.out]
  clear hck hcn hcu
  replace HRS := HRS1
  by_cases hnm : (l.length : Int) = many
  rotate_left
  · have hbx : ((l.length : Int) != many) = true := by simpa using hnm
    have HV : Hid (res = false) := by show _ = _; rw [HRS.out]; simp [hnm]
    go_wp2_with fail
    go_ret
    exact ⟨by rw [HV.out]; rfl, HG.out⟩
  have hbx : ((l.length : Int) != many) = false := by simpa using hnm
  have HNM := Lib.hid hnm
  clear hnm
  by_cases hend : at_ + (l.length : Int) * wid ≤ d.length
  rotate_left
  · have hgt : (d.length : Int) < at_ + (l.length : Int) * wid := by omega
    have HV : Hid (res = false) := by show _ = _; rw [HRS.out]; simp [hend]
    go_wp2_with fail
    go_ret
    exact ⟨by rw [HV.out]; rfl, HG.out⟩
  have HRS2 : Hid (res = K0) := by show _ = _; rw [HRS.out, decide_eq_true HNM.out]; simp [hend]
  have hngt : ¬ (d.length : Int) < at_ + (l.length : Int) * wid := by omega
  have hel := relem_any typ
  obtain ⟨el, hel2⟩ : ∃ e, Ft.elemF typ = e := ⟨_, rfl⟩
  rw [hel2] at hel
  have HEL := Lib.hid hel
  have HEQ := Lib.hid hel2
  clear hel hel2
  obtain ⟨el1, el2, el3⟩ := el
  simp only at HEL
  have HFI : Hid (firstF typ wid at_ = at_) := by show _ = _; unfold firstF; rw [HQ.out]; simp only; rw [if_neg HN.out.1, if_neg HMN.out]
  have HEO : Hid (∀ i : Nat, elemOf d typ wid at_ l.length i = (el1, wid, 0)) := fun i => by unfold elemOf; rw [HQ.out, HEQ.out]; simp only; rw [HTG.out]; rfl
  have HEND : Hid (at_ + (l.length : Int) * wid ≤ d.length) := hend
  have HRR0 := HRR
  have HRT0 := HRT
  go_upto_region 23 with fail
  clear c0 c1 c2 c3
  clear e0 e1 e2 e3 e4 e5
  go_wp2_with fail
  go_loopw [17] (fun i wr => ∃ kk : Nat, kk ≤ l.length ∧ i = .int .i64 kk ∧ Hid (Grew u1 wr ∧ K0 = kidsF d typ wid at_ l.length kk (l.drop kk))) (fun i _ => l.length - (intOf i).toNat)
  case atStart => exact ⟨0, Nat.zero_le _, rfl, by show _ ∧ _; exact ⟨Grew.refl _, by rw [List.drop_zero]; exact HK0.out.symm⟩⟩
  case round =>
    obtain ⟨kk, hkk, rfl, HL⟩ := hrel
    have HGW := Lib.hid (HG.out.trans HL.out.1)
    have HRRW := Lib.hid (HL.out.1.heap HRR0.out)
    have HRTW := Lib.hid (HL.out.1.heap HRT0.out)
    by_cases hlt : kk < l.length
    rotate_left
    · have ek : kk = l.length := by omega
      have HV : Hid (res = true) := by show _ = _; rw [HRS2.out, HL.out.2, ek, List.drop_length]; rfl
      subst ek
      clear hlt
      go_wp2_with fail
      go_ret
      exact ⟨by rw [HV.out]; rfl, HGW.out⟩
    obtain ⟨x, hx⟩ : ∃ x, l[kk]? = some x := ⟨_, List.getElem?_eq_getElem hlt⟩
    obtain ⟨xv, hxv, hnx⟩ := HKD.out.get hx
    have hxm : x ∈ l := List.mem_of_getElem? hx
    have HDR : Hid (l.drop kk = x :: l.drop (kk + 1)) := by show _ = _; rw [List.drop_eq_getElem_cons hlt]; congr 1; rw [List.getElem?_eq_getElem hlt] at hx; injection hx
    obtain ⟨b, off, rfl, hc6⟩ : ∃ b off, a5 = some ⟨b, off, none⟩ ∧ Cells6 wr b (off + kk * 6) xv := by
      obtain ⟨a, c, e, _, _, _, h⟩ := HRL.out
      injection e with e1 e2 e3
      subst e1
      obtain ⟨b, off, e, h6⟩ := h kk xv hxv
      exact ⟨b, off, e, h6.grew HGW.out⟩
    obtain ⟨xk, xn, xu, xs, xa4, xn4, xc4, xa5, xn5, xc5, rfl⟩ := hnx.node6
    have HC6 := Lib.hid hc6
    have HNX := Lib.hid (hnx.grew HGW.out)
    have hlti : (kk : Int) < l.length := by omega
    have hkw : 0 ≤ (kk : Int) * wid ∧ (kk : Int) * wid ≤ 32768 := by
      refine ⟨Int.mul_nonneg (by omega) (by omega), ?_⟩
      have h1 := Int.mul_le_mul (show (kk : Int) ≤ 4096 by omega) hw1.2 (by omega) (by omega)
      omega
    have hwk : IntKind.i64.wrap ((kk : Int) * wid) = (kk : Int) * wid := by rw [IntKind.wrap_i64]; omega
    have hwk2 : IntKind.i64.wrap (at_ + (kk : Int) * wid) = at_ + (kk : Int) * wid := by rw [IntKind.wrap_i64]; omega
    have HSX := Lib.hid (HHK.out x hxm)
    clear hc6 hx hxv hnx hxm
    have c2 := row_cellT HRRW.out 2 _ rfl
    go_wp2_with fail
    refine (HEL.out wr).mono ?_
    rintro r wq ⟨rfl, e⟩
    rw [e]
    clear e wq c2
    go_upto_region 33 with fail
    have hry := heap_alloc_new wr (.cells #[.int .i64 (at_ + (kk : Int) * wid), .int .i64 wid, .int .i64 el1, .int .i64 wid] 35)
    have hgy := (Grew.refl wr).alloc (.cells #[.int .i64 (at_ + (kk : Int) * wid), .int .i64 wid, .int .i64 el1, .int .i64 wid] 35)
    generalize (wr.alloc (.cells #[.int .i64 (at_ + (kk : Int) * wid), .int .i64 wid, .int .i64 el1, .int .i64 wid] 35)) = y1 at *
    obtain ⟨px, hpx⟩ : ∃ N, wr.heap.size = N := ⟨_, rfl⟩
    rw [hpx] at hry ⊢
    have HRY := Lib.hid hry
    have HGY := Lib.hid hgy
    clear hry hgy hpx
    have e5 := HGY.out.cell (row_cellT HRTW.out 5 _ rfl)
    obtain ⟨f0, f1, f2, f3, f4, f5⟩ := (HC6.out.grew HGY.out).get
    have g0 := row_cellT HRY.out 0 _ rfl
    have g1 := row_cellT HRY.out 1 _ rfl
    have g2 := row_cellT HRY.out 2 _ rfl
    have g3 := row_cellT HRY.out 3 _ rfl
    have hsay := fun w2 (h : Grew y1 w2) => HSX.out el1 (.inr (.inr (by rw [HEQ.out]))) (.slice da d.length dc) (at_ + (kk : Int) * wid) wid wid (at_) _ w2 (HD.out.grew (HGW.out.trans (HGY.out.trans h))) (HNX.out.grew (HGY.out.trans h)) (by unfold i64ok; omega)
    obtain ⟨sB, hsB⟩ : ∃ b, saysF d el1 (at_ + (kk : Int) * wid) wid wid (at_) x = b := ⟨_, rfl⟩
    rw [hsB] at hsay
    have HKX : Hid (K0 = (sB && kidsF d typ wid at_ l.length (kk + 1) (l.drop (kk + 1)))) := by show _ = _; rw [HL.out.2, HDR.out, kidsF, HEO.out]; simp only; rw [HFI.out, hsB]; rfl
    have HSAY := Lib.hid hsay
    clear hsay hsB
    refine wp_region_tables Grew [[], [], [], [], [3], [], [3, 4, 5], [3, 4, 5, 6], [0, 1, 2, 3, 4, 5, 6, 7], [0, 1, 2, 3, 4, 5, 6, 7, 8]] [[(190, 1), (191, 2), (192, 3), (193, 4), (194, 5), (195, 6), (196, 7)], [(189, 0), (191, 2), (192, 3), (193, 4), (194, 5), (195, 6), (196, 7)], [(189, 0), (190, 1), (192, 3), (193, 4), (194, 5), (195, 6), (196, 7)], [(189, 0), (190, 1), (191, 2), (194, 5)], [(189, 0), (190, 1), (191, 2), (192, 3), (194, 5)], [(189, 0), (190, 1), (191, 2), (192, 3), (193, 4)], [(189, 0), (190, 1), (191, 2), (192, 3), (193, 4), (194, 5)], [(189, 0), (190, 1), (191, 2), (192, 3), (193, 4), (194, 5), (195, 6)], [(189, 0), (190, 1), (191, 2), (192, 3), (193, 4), (194, 5), (195, 6), (196, 7)], [(189, 0), (190, 1), (191, 2), (192, 3), (193, 4), (194, 5), (195, 6), (196, 7), (197, 8)]] [(189, 0), (190, 1), (191, 2), (192, 3), (193, 4), (194, 5), (195, 6), (196, 7), (197, 8), (198, 9)]
      [Is (.slice da d.length dc), Is (.agg #[.int .i64 (at_ + (kk : Int) * wid), .int .i64 wid, .int .i64 el1, .int .i64 wid]), Is (.int .i64 (at_)), Is (.pointer (some ⟨pr + 1, 5, none⟩)), Is (.slice (some ⟨b, off, none⟩) l.length c5), Is (.int .i64 (kk : Int)), Is (.pointer (some ⟨b, off + kk * 6, none⟩)), Is (.agg #[.int .i64 xk, .int .i64 xn, .int .u64 xu, .string xs, .slice xa4 xn4 xc4, .slice xa5 xn5 xc5]), Is (.bool sB), Is (.bool (!sB))]
      (by kernel_rfl) Grew.trans Grew.refl (Grew.refl _).drew (by kernel_rfl) ⟨is_st, is_st, is_st, is_st, is_st, is_st, is_st, is_st, is_st, is_st, trivial⟩ ?_ rfl ?_
    rotate_left
    · intro y w2 hG hF
      simp only [factsH, Is, and_true, Nat.reduceAdd] at hF
      have hlast := hF.2.2.2.2.2.2.2.2.2
      clear hF
      simp only [fillL, Act.put, List.setIfInBounds_toArray, List.set_cons_zero, List.set_cons_succ, List.getD_cons_zero, List.getD_cons_succ, hlast]
      have HG6 := Lib.hid (HGY.out.trans hG)
      clear hG hlast f0 f1 f2 f3 f4 f5 g0 g1 g2 g3 e5
      cases sB
      · have HV : Hid (res = false) := by show _ = _; rw [HRS2.out, HKX.out]; rfl
        have HGF := Lib.hid (HGW.out.trans HG6.out)
        go_wp2_with fail
        go_ret
        exact ⟨by rw [HV.out]; rfl, HGF.out⟩
      · go_wp2_with fail
        go_roundw
        case rel => exact ⟨kk + 1, by omega, by go_num, by
          show _ ∧ _
          exact ⟨HL.out.1.trans HG6.out, by rw [HKX.out]; rfl⟩⟩
        case measure => simp [intOf]; omega
    refine ⟨?_, ?_⟩
    · intro y w2 hG hD K hK
      simp only [fillL, Act.put, List.setIfInBounds_toArray, List.set_cons_zero, List.set_cons_succ, List.getD_cons_zero, List.getD_cons_succ, Is] at hK ⊢
      refine ite_yes (by rfl) ?_
      go_simp
      exact hK _ _ _ rfl (Grew.refl _) rfl
    refine ⟨?_, ?_⟩
    · intro y w2 hG hD K hK
      have dg0 := hG.cell g0
      have dg1 := hG.cell g1
      have dg2 := hG.cell g2
      have dg3 := hG.cell g3
      simp only [fillL, Act.put, List.setIfInBounds_toArray, List.set_cons_zero, List.set_cons_succ, List.getD_cons_zero, List.getD_cons_succ, Is] at hK ⊢
      refine ite_yes (by rfl) ?_
      go_simp
      exact hK _ _ _ rfl (Grew.refl _) rfl
    refine ⟨?_, ?_⟩
    · intro y w2 hG hD K hK
      simp only [fillL, Act.put, List.setIfInBounds_toArray, List.set_cons_zero, List.set_cons_succ, List.getD_cons_zero, List.getD_cons_succ, Is] at hK ⊢
      refine ite_yes (by rfl) ?_
      go_simp
      exact hK _ _ _ rfl (Grew.refl _) rfl
    refine ⟨?_, ?_⟩
    · intro y w2 hG hD K hK
      simp only [fillL, Act.put, List.setIfInBounds_toArray, List.set_cons_zero, List.set_cons_succ, List.getD_cons_zero, List.getD_cons_succ, Is] at hK ⊢
      refine ite_yes (by rfl) ?_
      go_simp
      exact hK _ _ _ rfl (Grew.refl _) rfl
    refine ⟨?_, ?_⟩
    · intro y w2 hG hD K hK
      simp only [depsH, List.getD_cons_zero, List.getD_cons_succ, Is, and_true] at hD
      have h3 := hD
      clear hD
      have de5 := hG.cell e5
      simp only [fillL, Act.put, List.setIfInBounds_toArray, List.set_cons_zero, List.set_cons_succ, List.getD_cons_zero, List.getD_cons_succ, Is] at hK ⊢
      simp only [h3] at hK ⊢
      clear h3
      refine ite_yes (by rfl) ?_
      go_simp
      exact hK _ _ _ rfl (Grew.refl _) rfl
    refine ⟨?_, ?_⟩
    · intro y w2 hG hD K hK
      simp only [fillL, Act.put, List.setIfInBounds_toArray, List.set_cons_zero, List.set_cons_succ, List.getD_cons_zero, List.getD_cons_succ, Is] at hK ⊢
      refine ite_yes (by rfl) ?_
      go_simp
      exact hK _ _ _ rfl (Grew.refl _) rfl
    refine ⟨?_, ?_⟩
    · intro y w2 hG hD K hK
      simp only [depsH, List.getD_cons_zero, List.getD_cons_succ, Is, and_true] at hD
      have h3 := hD.1
      have h4 := hD.2.1
      have h5 := hD.2.2
      clear hD
      simp only [fillL, Act.put, List.setIfInBounds_toArray, List.set_cons_zero, List.set_cons_succ, List.getD_cons_zero, List.getD_cons_succ, Is] at hK ⊢
      simp only [h3, h4, h5] at hK ⊢
      clear h3 h4 h5
      refine ite_yes (by rfl) ?_
      go_simp
      exact hK _ _ _ rfl (Grew.refl _) rfl
    refine ⟨?_, ?_⟩
    · intro y w2 hG hD K hK
      simp only [depsH, List.getD_cons_zero, List.getD_cons_succ, Is, and_true] at hD
      have h3 := hD.1
      have h4 := hD.2.1
      have h5 := hD.2.2.1
      have h6 := hD.2.2.2
      clear hD
      have df0 := hG.cell f0
      have df1 := hG.cell f1
      have df2 := hG.cell f2
      have df3 := hG.cell f3
      have df4 := hG.cell f4
      have df5 := hG.cell f5
      simp only [fillL, Act.put, List.setIfInBounds_toArray, List.set_cons_zero, List.set_cons_succ, List.getD_cons_zero, List.getD_cons_succ, Is] at hK ⊢
      simp only [h3, h4, h5, h6] at hK ⊢
      clear h3 h4 h5 h6
      refine ite_yes (by rfl) ?_
      go_simp
      exact hK _ _ _ rfl (Grew.refl _) rfl
    refine ⟨?_, ?_⟩
    · intro y w2 hG hD K hK
      simp only [depsH, List.getD_cons_zero, List.getD_cons_succ, Is, and_true] at hD
      have h0 := hD.1
      have h1 := hD.2.1
      have h2 := hD.2.2.1
      have h3 := hD.2.2.2.1
      have h4 := hD.2.2.2.2.1
      have h5 := hD.2.2.2.2.2.1
      have h6 := hD.2.2.2.2.2.2.1
      have h7 := hD.2.2.2.2.2.2.2
      clear hD
      simp only [fillL, Act.put, List.setIfInBounds_toArray, List.set_cons_zero, List.set_cons_succ, List.getD_cons_zero, List.getD_cons_succ, Is] at hK ⊢
      simp only [h0, h1, h2, h3, h4, h5, h6, h7] at hK ⊢
      clear h0 h1 h2 h3 h4 h5 h6 h7
      refine ite_yes (by rfl) ?_
      go_simp
      refine (HSAY.out w2 hG).mono ?_
      rintro r w3 ⟨rfl, hg3⟩
      exact hK _ _ _ rfl hg3 rfl
    refine ⟨?_, ?_⟩
    · intro y w2 hG hD K hK
      simp only [depsH, List.getD_cons_zero, List.getD_cons_succ, Is, and_true] at hD
      have h0 := hD.1
      have h1 := hD.2.1
      have h2 := hD.2.2.1
      have h3 := hD.2.2.2.1
      have h4 := hD.2.2.2.2.1
      have h5 := hD.2.2.2.2.2.1
      have h6 := hD.2.2.2.2.2.2.1
      have h7 := hD.2.2.2.2.2.2.2.1
      have h8 := hD.2.2.2.2.2.2.2.2
      clear hD
      simp only [fillL, Act.put, List.setIfInBounds_toArray, List.set_cons_zero, List.set_cons_succ, List.getD_cons_zero, List.getD_cons_succ, Is] at hK ⊢
      simp only [h0, h1, h2, h3, h4, h5, h6, h7, h8] at hK ⊢
      clear h0 h1 h2 h3 h4 h5 h6 h7 h8
      refine ite_yes (by rfl) ?_
      go_simp
      exact hK _ _ _ rfl (Grew.refl _) rfl
    trivial
end Go.Proofs.Ytlhliolknaopjaa

/-
  Denote: the reference's vector at any type, where says and keys are given. Conditions: the bytes, the tree lie in memory; the tree is small.
-/
namespace Go.Proofs.Ytlhliolknaopjaa
open Go Go.ChangeShapes Go.WideShapes Go.ChangeAt Go.RowKit Go.Joins Go.Deep
set_option linter.unusedVariables false
set_option linter.unusedSimpArgs false

theorem vec_walk (d : List UInt8) (typ k n u : Int) (s : ByteArray) (keys : List ByteArray) (l : List Tr) (hl : l.length ≤ 4096) (hkl4 : keys.length ≤ 4096) (hkids : ∀ x ∈ l, ∀ typ', ((shapeF typ).1 = 10 ∨ (shapeF typ).1 = 17 ∨ typ' = (Ft.elemF typ).1) → RSays d typ' x) (hkeys : (shapeF typ).1 = 17 → RKeys d keys) : VecR d typ (.mk k n u s keys l) := by
  by_cases h17 : (shapeF typ).1 = 17
  · exact vec_walkA d typ k n u s keys l hl hkl4 hkids hkeys h17
  by_cases h10 : (shapeF typ).1 = 10
  · exact vec_walkB d typ k n u s keys l hl hkl4 hkids hkeys h10
  by_cases hm : (shapeF typ).2 = 0
  · exact vec_walkC d typ k n u s keys l hl hkl4 hkids hkeys ⟨⟨h17, h10⟩, hm⟩
  · exact vec_walkD d typ k n u s keys l hl hkl4 hkids hkeys ⟨⟨h17, h10⟩, hm⟩
end Go.Proofs.Ytlhliolknaopjaa
