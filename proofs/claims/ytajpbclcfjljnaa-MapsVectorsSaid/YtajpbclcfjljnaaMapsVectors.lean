/-
  MapsVectors: values and tags of a map are those of an untyped vector at the same place. Conditions: none beyond the statement's own.
-/
import Derived.Test.YtajpbclcfjljnaaPE
import Derived.Deep.QuietTactic
import Derived.BigQuiet
import Derived.StillTailTactics
namespace Go.Proofs.Ytajpbclcfjljnaa
open Go Go.ChangeShapes Go.WideShapes Go.ChangeAt Go.RowKit Go.Joins Go.Deep
open Go.Proofs.Ytajpbclcfjljnaa.Ft (V3 vV okV ValsAt inlineB legalB packF codeF typedF allF)
set_option linter.unusedVariables false
set_option linter.unusedSimpArgs false

theorem bytes_formV {w : World} {v : Value} {X : List UInt8} (h : BytesAt w v X) (hX : 0 < X.length) : ∃ bl off c, v = .slice (some ⟨bl, off, none⟩) X.length c ∧ X.length ≤ c ∧ bl < w.heap.size := by
  obtain ⟨a, c, rfl, hc, _, hcell⟩ := h
  obtain ⟨bl, off, rfl, h0⟩ := hcell 0 X[0] (List.getElem?_eq_getElem hX)
  exact ⟨bl, off, c, rfl, hc, World.block_lt_of_cell? w _ h0⟩
theorem bytes_mid {w : World} {bl off c n : Nat} {X : List UInt8} (h : BytesAt w (.slice (some ⟨bl, off, none⟩) n c) X) (k : Nat) (hk : k ≤ n) (hck : ¬ c = k) {n' : Nat} (hn : n' = n - k) : BytesAt w (.slice (some ⟨bl, off + k, none⟩) n' (c - k)) (X.drop k) := by
  subst hn
  have hq : n = X.length ∧ X.length ≤ c := by
    obtain ⟨a, c', e, hc, _⟩ := h
    cases e
    exact ⟨rfl, hc⟩
  obtain ⟨rfl, hc⟩ := hq
  have := bytes_cut h k (X.length - k) (c - k) (by omega) (by omega)
  rwa [List.take_of_length_le (by rw [List.length_drop]; omega)] at this
theorem bytes_end {w : World} {bl off n k : Nat} {X : List UInt8} (h : BytesAt w (.slice (some ⟨bl, off, none⟩) n k) X) (k' : Nat) (hk : k ≤ n) (hkk : k = k') {n' : Nat} (hn : n' = n - k) : BytesAt w (.slice (some ⟨bl, off, none⟩) n' 0) (X.drop k) := by
  subst hn
  have hq : n = X.length ∧ X.length ≤ k := by
    obtain ⟨a, c', e, hc, _⟩ := h
    cases e
    exact ⟨rfl, hc⟩
  obtain ⟨rfl, hc⟩ := hq
  have e : X.drop k = [] := by rw [List.drop_eq_nil_iff]; omega
  rw [e, show X.length - k = 0 by omega]
  exact ⟨_, _, rfl, by simp, (fun h => by cases h), fun i b hb => by simp at hb⟩
theorem still_hide {P : Program} {ops : Array Oper} {w : World} {Q : Act → Prop} {l : List Oper} {a : Act} (h : ∀ a0, Hid (a0 = a) → wpStill P ops w Q l a0) : wpStill P ops w Q l a := h a (Lib.hid rfl)
theorem still_skip {P : Program} {ops : Array Oper} {w : World} {Q : Act → Prop} {o : Oper} {l : List Oper} {a : Act} (hg : Region.wanted o (yielded ops a.tmps) = false) (hp : a.put o.dst undef = a) (h : wpStill P ops w Q l a) : wpStill P ops w Q (o :: l) a :=
  wpStill_step fun K hK => ite_no hg (by rw [hp]; exact hK _ h)
set_option maxRecDepth 100000 in
set_option maxHeartbeats 8000000 in
theorem mapsVectors_any (a : Int) (lv : Value) (l : List (Int × Int)) (W : World) (hp : PairsAt W lv l) (hlen : l.length ≤ 9223372036854775807) :
    Calls Try.prog 3 #[.int .i64 a, lv] W fun r w' => r = .returned (.bool true) ∧ Below W.heap.size W w' := by
  have HP := Lib.hid hp
  obtain ⟨la, lc, rfl, hcell⟩ := hp
  clear hcell
  go_enter Try.func3, Try.ntmps3
  go_wp2_with fail
  refine (bringL_any a 70000 _ (by omega) (by omega)).mono ?_
  rintro r w1 ⟨rfl, rfl⟩
  obtain ⟨m, hm⟩ : ∃ m : Nat, a % 70000 = m := ⟨(a % 70000).toNat, by omega⟩
  rw [hm]
  have hm2 : m < 70000 := by omega
  clear hm
  go_wp2_with fail
  obtain ⟨n, hn⟩ : ∃ n : Nat, 1 + (m : Int) = n := ⟨m + 1, by omega⟩
  rw [hn]
  have hn1 : 1 ≤ n := by omega
  have hn2 : n ≤ 70000 := by omega
  clear hn hm2
  refine (values18_any n _ l _ HP.out (by omega) (by omega) hlen).mono ?_
  rintro r w2 ⟨vv, rfl, hown, hg⟩
  have HO := Lib.hid hown
  have HG2 := Lib.hid hg
  obtain ⟨va, vc, rfl, hvc⟩ := own_form hown
  have HNR : Hid (∀ v ∈ valsM l n, Near n v) := near_valsM l n (by omega) (by omega)
  have hl3 : (valsM l n).length ≤ 300 := by rw [valsM_length]; omega
  generalize valsM l n = L at *
  have HNIL : Hid (∀ c, Value.slice va L.length vc = .slice none 0 c → c = 0) := fun c e => by
    injection e with e1 e2 e3
    rw [← e3]
    exact hvc e1
  clear hown hg hvc
  go_wp2_with fail
  refine (filled18_any 1048576 n _ (by omega)).mono ?_
  rintro r w3 ⟨rfl, hl⟩
  rw [roomOf_big, filled_big n (by omega)] at hl
  have HL := Lib.hid hl
  clear hl
  go_wp2_with fail
  refine (keys18_any 0 1 _).mono ?_
  rintro r w3b ⟨rfl, hgk⟩
  replace HL := Lib.hid (HL.out.grew hgk)
  clear hgk
  have HKA : Hid (KeyAt n (14, 1, 0)) := ⟨rfl, show isW 1 = true by decide, by show (0 : Int) ≤ 0; omega, by show (0 : Int) ≤ n; omega⟩
  go_wp2_with fail
  obtain ⟨o, hb, hbel, h3, h4⟩ := HL.out
  refine (put_map (zeros n, 0) (14, 1, 0) _ L hb hbel.size h3 h4 ((HO.out.vals).grew hbel) HNIL.out (by omega) (okV_vals HNR.out) ⟨by show (0 : Int) ≤ 0; omega, by show (0 : Int) ≤ _; omega⟩ ?_ rfl).mono ?_
  · intro ad n' c' e
    have hlt := own_lt HO.out e
    exact ⟨Nat.lt_of_lt_of_le hlt hbel.size, fun hq => by have := hb.ge _ hq; omega⟩
  rintro r w4 ⟨rfl, ht⟩
  have hzl : (zeros n).length = n := length_zeros n
  obtain ⟨x, hx⟩ : ∃ x, allF L (14, 1, 0) n 3 = x := ⟨_, rfl⟩
  obtain ⟨_, _, hw, _⟩ := allF_map (n := n) (by omega) (by omega) (by omega) HNR.out HKA.out
  rw [hx] at hw
  have hq := putM_ok (most := 1048576) (k := (14, 1, 0)) (b := zeros n) (l := L) (x := x) (by omega) (by omega) (by rw [hzl]; exact HNR.out) (by rw [hzl]; exact HKA.out) (by rw [hzl]; exact hx) (by have := lenM_le hw (zeros n) L; omega)
  rw [hq] at ht ⊢
  have hpad := padN_lt (l := zeros n) hw
  have hxp := isW_pos hw
  obtain ⟨p, hpp⟩ : ∃ p : Int, ((zeros n).length : Int) + padN (zeros n) x + 3 * x = p := ⟨_, rfl⟩
  rw [hpp]
  have hp0 : 0 ≤ p := by rw [← hpp, hzl]; omega
  have hp1 : p ≤ 1048576 := by rw [← hpp, hzl]; omega
  rw [show putV ((9, x, p), 0) = .tuple #[.agg #[.int .i64 9, .int .i64 x, .int .u64 p], .int .i64 0] from rfl]
  have hHD := heldM (b := zeros n) (k := (14, 1, 0)) (l := L) (x := x) (p := p) (by omega) (by omega) (by rw [hzl]; exact HNR.out) (by rw [hzl]; exact HKA.out) (by rw [hzl]; exact hx) hpp
  have hXl := hHD.2.1.len
  obtain ⟨q, hqe⟩ : ∃ q : Nat, (q : Int) = p - x := ⟨(p - x).toNat, by rw [← hpp, hzl]; omega⟩
  have hp2 : 3 * x ≤ p := by rw [← hpp, hzl]; omega
  have hpb : p ≤ 71000 := by rw [← hpp, hzl]; omega
  have hpe := pad_eq hw (zeros n)
  have hqa : (q : Int) = ((n : Int) + x - 1) / x * x + 2 * x := by rw [hzl] at hpe hpp; omega
  have hnq : (n : Int) ≤ q := by rw [hzl] at hpp; omega
  have hle := vec_least (by omega) (by omega) (by omega) HNR.out HKA.out hx hqa hnq (by omega)
  obtain ⟨ht1, ht2, ht3, ht4⟩ := same_tail (l := L) (k := (14, 1, 0)) hw hpp hqe
  obtain ⟨X, hX⟩ : ∃ X, zeros n ++ (piecesM x (14, 1, 0) (zeros n) L).flatten = X := ⟨_, rfl⟩
  rw [hX] at ht ht1 ht2 ht3 hXl
  have hX3 : p ≤ X.length := by omega
  have hXm : ((X.length : Nat) : Int) ≤ 1048576 := by
    have hm : x * (L.length : Int) ≤ 8 * L.length := Int.mul_le_mul_of_nonneg_right hxp.2 (by omega)
    omega
  have HLB := Lib.hid (Live.turn (s' := (X, 0)) hb hbel ht hXm h4)
  have HVM : Hid (ValsAt w4 (.slice va L.length vc) L) := by
    obtain ⟨_, _, _, hm⟩ := ht
    refine vals_moved (HO.out.vals.grew hbel) hm fun ad n' c' e hq => ?_
    have hlt := own_lt HO.out e
    have := hb.ge _ hq
    omega
  have HNQ : Hid (∀ v ∈ L, Near q v) := fun v hv => near_mono (HNR.out v hv) hnq
  have HVC : Hid (∀ ad n' c', Value.slice va L.length vc = .slice (some ad) n' c' → ad.block < w2.heap.size) := fun ad n' c' e => own_lt HO.out e
  have HG3 : Hid (Grew w1 w4) := HG2.out.trans HLB.out.below
  have hs24 : w2.heap.size ≤ w4.heap.size := HLB.out.below.size
  -- the vector at the same place
  obtain ⟨y, hy⟩ : ∃ y, allF L (0, 0, 0) q 1 = y := ⟨_, rfl⟩
  rw [hy] at hle
  obtain ⟨_, _, hwy, _⟩ := allF_near (n := q) (ahead := 1) (.inr rfl) (by omega) (by omega) (by omega) HNQ.out
  rw [hy] at hwy
  have hql : (zeros q).length = q := length_zeros q
  have hq2 := putF_ok (most := 1048576) (T := legalE) (len := true) (tagged := true) (kind := 10) (b := zeros q) (l := L) (x := y) (legal_vals HNQ.out) (by omega) (by omega) (by rw [hql]; exact HNQ.out) (by rw [hql, if_pos rfl]; exact hy) (by have := lenOf_le hwy true true (zeros q) L; omega)
  have hyp := isW_pos hwy
  have hpl := length_pieces hwy true true (zeros q) L
  have hpq := lenOf_le hwy true true (zeros q) L
  obtain ⟨Y, hY⟩ : ∃ Y, zeros q ++ (pieces y true true (zeros q) L).flatten = Y := ⟨_, rfl⟩
  have hYm : ((Y.length : Nat) : Int) ≤ 1048576 := by rw [← hY, List.length_append]; omega
  obtain ⟨r, hr⟩ : ∃ r : Int, ((zeros q).length : Int) + padN (zeros q) y + (if true = true then y else 0) = r := ⟨_, rfl⟩
  rw [hr, hY] at hq2
  have hrr : 0 ≤ r ∧ r ≤ 100000 := by
    have hpad := padN_lt (l := zeros q) hwy
    rw [← hr, hql, if_pos rfl]; omega
  have HQ2 := Lib.hid hq2
  have HEQ : Hid (y = x → r = p ∧ Y.length = X.length ∧ X.drop p.toNat = Y.drop p.toNat) := by
    intro e
    subst e
    rw [ht4, hql, if_pos rfl] at hr
    rw [hY] at ht1 ht2
    exact ⟨by omega, ht2.symm, ht1⟩
  clear hq hpp hpad hx hzl HO HG2 HKA HNIL ht hb hbel h3 h4 HL hq2 hpl hpq hr hY hX hXl ht1 ht2 ht3 ht4 hqa hnq hpe hHD hql hwy
  go_wp2_with fail
  have hgr := (Grew.refl w4).alloc (.cells #[.int .i64 9, .int .i64 x, .int .u64 p] 30)
  have hr4 := heap_alloc_new w4 (.cells #[.int .i64 9, .int .i64 x, .int .u64 p] 30)
  generalize (w4.alloc (.cells #[.int .i64 9, .int .i64 x, .int .u64 p] 30)) = w5 at *
  rw [show p - x = (q : Int) by omega]
  refine (filled18_any 1048576 q _ (by omega)).mono ?_
  rintro r0 w6 ⟨rfl, hl⟩
  rw [roomOf_big, filled_big q (by omega)] at hl
  have HL6 := Lib.hid hl
  have HLBK : Hid (∀ w', Below w5.heap.size w5 w' → Live w2 w' w2.heap.size 1048576 (X, 0)) := fun w' hb' => HLB.out.grew (hgr.trans (Grew.of_below hb'))
  have HG5 : Hid (Grew w1 w5) := HG3.out.trans hgr
  have HR6 := Lib.hid (Grew.heap (Grew.of_below hl.below) hr4)
  have HV6 := Lib.hid (HVM.out.grew (hgr.trans (Grew.of_below hl.below)))
  have hs46 : w4.heap.size ≤ w5.heap.size := hgr.size
  have HG6 : Hid (Grew w1 w6) := HG3.out.trans (hgr.trans (Grew.of_below hl.below))
  clear hl hgr hr4 HLB HVM HG3
  go_wp2_with fail
  obtain ⟨o, hb, hbel, h3, h4⟩ := HL6.out
  refine (put_un (zeros q, 0) _ L hb hbel.size h3 h4 HV6.out (by omega) (okV_vals HNQ.out) ?_ rfl).mono ?_
  · intro ad n' c' e
    have hlt := HVC.out ad n' c' e
    have hsz := hbel.size
    exact ⟨by omega, fun hq => by have := hb.ge _ hq; omega⟩
  rw [HQ2.out]
  rintro r0 w7 ⟨rfl, ht⟩
  have hR7 : w7.heap[w4.heap.size]? = some (.cells #[.int .i64 9, .int .i64 x, .int .u64 p] 30 (0, 0)) := by
    obtain ⟨_, _, _, hm⟩ := ht
    exact hm.heap HR6.out (hb.not_row HR6.out)
  have HL7 := Lib.hid (Live.turn (s' := (Y, 0)) hb hbel ht hYm h4)
  have HLB7 : Hid (Live w2 w7 w2.heap.size 1048576 (X, 0)) := by
    exact HLBK.out w7 HL7.out.below
  have HG7 : Hid (Grew w1 w7) := HG5.out.trans HL7.out.below
  clear ht hb hbel h3 h4 HL6 HR6 HV6 HG6 HVC HQ2 HNQ HNR HLBK HG5
  rw [show putV ((10, y, r), 0) = .tuple #[.agg #[.int .i64 10, .int .i64 y, .int .u64 r], .int .i64 0] from rfl]
  go_wp2_with fail
  have hgr := (Grew.refl w7).alloc (.cells #[.int .i64 10, .int .i64 y, .int .u64 r] 30)
  have hr7 := heap_alloc_new w7 (.cells #[.int .i64 10, .int .i64 y, .int .u64 r] 30)
  generalize (w7.alloc (.cells #[.int .i64 10, .int .i64 y, .int .u64 r] 30)) = w8 at *
  refine (bytesL (HLB7.out.grew hgr)).mono ?_
  rintro r0 w9 ⟨vb, rfl, hvb, _, hg9⟩
  replace hvb : BytesAt w9 vb X := hvb
  obtain ⟨bl, off, cb, rfl, hcb, hbl⟩ := bytes_formV hvb (by omega)
  have HVB := Lib.hid hvb
  have HL9 := Lib.hid (HL7.out.grew (hgr.trans hg9))
  have HRA := Lib.hid ((hgr.trans hg9).heap hR7)
  have HRB := Lib.hid (hg9.heap hr7)
  have HG9 : Hid (Grew w1 w9) := HG7.out.trans (hgr.trans hg9)
  clear hvb hg9 hgr hr7 hR7 hbl HL7 HLB7 HG7
  go_wp2_with fail
  refine (bytesL HL9.out).mono ?_
  rintro r0 wa ⟨vy, rfl, hvy, _, hga⟩
  replace hvy : BytesAt wa vy Y := hvy
  have hra := hga.heap HRA.out
  have hrb := hga.heap HRB.out
  have c0 := row_cell hra 0 _ rfl
  have c1 := row_cell hra 1 _ rfl
  have c2 := row_cell hra 2 _ rfl
  have d0 := row_cell hrb 0 _ rfl
  have d1 := row_cell hrb 1 _ rfl
  have d2 := row_cell hrb 2 _ rfl
  have HVB' := Lib.hid (BytesAt.grew HVB.out hga)
  have HGA : Hid (Grew w1 wa) := HG9.out.trans hga
  have HVY := Lib.hid hvy
  clear hvy hra hrb hga HRA HRB HG9 HVB HL9
  by_cases hyx : y = x
  · obtain ⟨e1, e2, e3⟩ := HEQ.out hyx
    subst hyx
    subst e1
    have HDR := Lib.hid e3
    obtain ⟨bly, offy, cy, rfl, hcy, hbly⟩ := bytes_formV HVY.out (by omega)
    rw [e2]
    have HE2 := Lib.hid e2
    rw [e2] at hcy
    clear HEQ e3 e2 hbly
    go_wp2_with fail
    have hw1 : IntKind.i64.wrap r = r := by rw [IntKind.wrap_i64]; omega
    have hrX : r ≤ (X.length : Int) := by omega
    have HRX := Lib.hid hrX
    have HXC := Lib.hid hcb
    have HYC := Lib.hid hcy
    have HY2 : Hid (BytesAt wa (.slice (some ⟨bly, offy, none⟩) Y.length cy) Y) := HVY.out
    rw [HE2.out] at HY2
    have HVY' := HY2
    clear HVY
    have HVY := HVY'
    clear HVY' HY2
    clear hX3 hXm hYm hlen hl3 hle hn1 hn2 hp2 hpb
    refine wp_region_still_tail 41 (by kernel_rfl) (by kernel_rfl) ?_
    simp only [List.take_succ_cons, List.take_zero, List.drop_succ_cons, List.drop_zero]
    obtain ⟨wd, hwd, hgd⟩ : ∃ wd, wd = { wa with drawn := wa.drawn + 1 } ∧ Grew wa wd := ⟨_, rfl, (Grew.refl _).drew⟩
    rw [← hwd]
    clear hwd
    replace c1 := hgd.cell c1
    replace c2 := hgd.cell c2
    replace d1 := hgd.cell d1
    replace d2 := hgd.cell d2
    have HGD : Hid (Grew w1 wd) := HGA.out.trans hgd
    have HX := Lib.hid (BytesAt.grew HVB'.out hgd)
    have HY := Lib.hid (BytesAt.grew HVY.out hgd)
    clear hgd HVB' HVY
    iterate 31
      refine wpStill_step (fun K hK => ?_)
      go_simp
      refine hK _ ?_
      clear hK K
    by_cases hcb : cb = r.toNat
    · subst hcb
      have HCB := Lib.hid (rfl : r.toNat = r.toNat)
      iterate 1
        refine wpStill_step (fun K hK => ?_)
        go_simp
        refine hK _ ?_
        clear hK K
      iterate 4
        refine wpStill_step (fun K hK => ?_)
        go_simp
        refine hK _ ?_
        clear hK K
      by_cases hcy : cy = r.toNat
      · subst hcy
        have HCY := Lib.hid (rfl : r.toNat = r.toNat)
        iterate 1
          refine wpStill_step (fun K hK => ?_)
          go_simp
          refine hK _ ?_
          clear hK K
        refine wpStill_step (fun K hK => ?_)
        go_simp
        refine ⟨_, eqBytes_any _ _ _ _ (bytes_end HX.out r.toNat (by have := HRX.out; omega) HCB.out (by have := HRX.out; have := HXC.out; have := HYC.out; omega)) (bytes_end HY.out r.toNat (by have := HRX.out; omega) HCY.out (by have := HRX.out; have := HXC.out; have := HYC.out; omega)), hK _ ?_⟩
        clear hK K
        rw [HDR.out, decide_eq_true (rfl : Y.drop r.toNat = Y.drop r.toNat)]
        clear hw1 hrX
        iterate 3
          refine wpStill_step (fun K hK => ?_)
          go_simp
          refine hK _ ?_
          clear hK K
        refine wpStill_nil ?_
        go_wp2_with fail
        refine (works18_any _).mono ?_
        rintro r0 wz ⟨rfl, hgz⟩
        have HGZ : Hid (Grew w1 wz) := HGD.out.trans hgz
        clear hgz
        go_wp2
        go_ret
        exact ⟨rfl, HGZ.out⟩
      · have HCY := Lib.hid hcy
        iterate 1
          refine wpStill_step (fun K hK => ?_)
          go_simp
          refine hK _ ?_
          clear hK K
        refine wpStill_step (fun K hK => ?_)
        go_simp
        refine ⟨_, eqBytes_any _ _ _ _ (bytes_end HX.out r.toNat (by have := HRX.out; omega) HCB.out (by have := HRX.out; have := HXC.out; have := HYC.out; omega)) (bytes_mid HY.out r.toNat (by have := HRX.out; omega) HCY.out (by have := HRX.out; have := HXC.out; have := HYC.out; omega)), hK _ ?_⟩
        clear hK K
        rw [HDR.out, decide_eq_true (rfl : Y.drop r.toNat = Y.drop r.toNat)]
        clear hw1 hrX
        iterate 3
          refine wpStill_step (fun K hK => ?_)
          go_simp
          refine hK _ ?_
          clear hK K
        refine wpStill_nil ?_
        go_wp2_with fail
        refine (works18_any _).mono ?_
        rintro r0 wz ⟨rfl, hgz⟩
        have HGZ : Hid (Grew w1 wz) := HGD.out.trans hgz
        clear hgz
        go_wp2
        go_ret
        exact ⟨rfl, HGZ.out⟩
    · have HCB := Lib.hid hcb
      iterate 1
        refine wpStill_step (fun K hK => ?_)
        go_simp
        refine hK _ ?_
        clear hK K
      iterate 4
        refine wpStill_step (fun K hK => ?_)
        go_simp
        refine hK _ ?_
        clear hK K
      by_cases hcy : cy = r.toNat
      · subst hcy
        have HCY := Lib.hid (rfl : r.toNat = r.toNat)
        iterate 1
          refine wpStill_step (fun K hK => ?_)
          go_simp
          refine hK _ ?_
          clear hK K
        refine wpStill_step (fun K hK => ?_)
        go_simp
        refine ⟨_, eqBytes_any _ _ _ _ (bytes_mid HX.out r.toNat (by have := HRX.out; omega) HCB.out (by have := HRX.out; have := HXC.out; have := HYC.out; omega)) (bytes_end HY.out r.toNat (by have := HRX.out; omega) HCY.out (by have := HRX.out; have := HXC.out; have := HYC.out; omega)), hK _ ?_⟩
        clear hK K
        rw [HDR.out, decide_eq_true (rfl : Y.drop r.toNat = Y.drop r.toNat)]
        clear hw1 hrX
        iterate 3
          refine wpStill_step (fun K hK => ?_)
          go_simp
          refine hK _ ?_
          clear hK K
        refine wpStill_nil ?_
        go_wp2_with fail
        refine (works18_any _).mono ?_
        rintro r0 wz ⟨rfl, hgz⟩
        have HGZ : Hid (Grew w1 wz) := HGD.out.trans hgz
        clear hgz
        go_wp2
        go_ret
        exact ⟨rfl, HGZ.out⟩
      · have HCY := Lib.hid hcy
        iterate 1
          refine wpStill_step (fun K hK => ?_)
          go_simp
          refine hK _ ?_
          clear hK K
        refine wpStill_step (fun K hK => ?_)
        go_simp
        refine ⟨_, eqBytes_any _ _ _ _ (bytes_mid HX.out r.toNat (by have := HRX.out; omega) HCB.out (by have := HRX.out; have := HXC.out; have := HYC.out; omega)) (bytes_mid HY.out r.toNat (by have := HRX.out; omega) HCY.out (by have := HRX.out; have := HXC.out; have := HYC.out; omega)), hK _ ?_⟩
        clear hK K
        rw [HDR.out, decide_eq_true (rfl : Y.drop r.toNat = Y.drop r.toNat)]
        clear hw1 hrX
        iterate 3
          refine wpStill_step (fun K hK => ?_)
          go_simp
          refine hK _ ?_
          clear hK K
        refine wpStill_nil ?_
        go_wp2_with fail
        refine (works18_any _).mono ?_
        rintro r0 wz ⟨rfl, hgz⟩
        have HGZ : Hid (Grew w1 wz) := HGD.out.trans hgz
        clear hgz
        go_wp2
        go_ret
        exact ⟨rfl, HGZ.out⟩
  · have hlt : y < x := by omega
    clear HEQ
    have hvy : ∃ ad ny cy, vy = .slice ad ny cy := by obtain ⟨ad, cy, e, _⟩ := HVY.out; exact ⟨_, _, _, e⟩
    obtain ⟨ad, ny, cy, rfl⟩ := hvy
    go_wp2_with fail
    clear hyx hy hle hw hxp hp0 hp1 hqe hp2 hpb hX3 hXm hs24 hyp hYm hrr hs46 hcb hlen hn1 hn2 hl3
    have HLT := Lib.hid hlt
    clear hlt
    refine wp_region_still_tail 41 (by kernel_rfl) (by kernel_rfl) ?_
    simp only [List.take_succ_cons, List.take_zero, List.drop_succ_cons, List.drop_zero]
    obtain ⟨wd, hwd, hgd⟩ : ∃ wd, wd = { wa with drawn := wa.drawn + 1 } ∧ Grew wa wd := ⟨_, rfl, (Grew.refl _).drew⟩
    rw [← hwd]
    clear hwd
    replace c1 := hgd.cell c1
    replace c2 := hgd.cell c2
    replace d1 := hgd.cell d1
    replace d2 := hgd.cell d2
    have HGD : Hid (Grew w1 wd) := HGA.out.trans hgd
    have HX := Lib.hid (BytesAt.grew HVB'.out hgd)
    have HY := Lib.hid (BytesAt.grew HVY.out hgd)
    clear hgd HVB' HVY
    iterate 5
      refine wpStill_step (fun K hK => ?_)
      go_simp
      refine hK _ ?_
      clear hK K
    generalize hbb : decide (y < x) = bb
    have HBB : Hid (bb = true) := by show _ = _; rw [← hbb]; exact decide_eq_true HLT.out
    clear hbb
    iterate 1
      refine wpStill_step (fun K hK => ?_)
      go_simp
      refine hK _ ?_
      clear hK K
    refine still_hide ?_
    intro a0 HA
    iterate 33
      refine still_skip (by rw [HA.out, HBB.out]; rfl) (by rw [HA.out]; rfl) ?_
    obtain rfl := HA.out
    rw [HBB.out]
    iterate 2
      refine wpStill_step (fun K hK => ?_)
      go_simp
      refine hK _ ?_
      clear hK K
    refine wpStill_nil ?_
    go_wp2_with fail
    refine (works18_any _).mono ?_
    rintro r0 wz ⟨rfl, hgz⟩
    have HGZ : Hid (Grew w1 wz) := HGD.out.trans hgz
    clear hgz
    go_wp2
    go_ret
    exact ⟨rfl, HGZ.out⟩

set_option maxRecDepth 100000 in
theorem mapsVectors_row {H : Type} (enc : TypeId × Value → H) (W : World) (base : Nat) (v0 : Value) (d0 : DataW H) (p0 : List MemPlace) (o0 : Value.okWide Try.prog W .any base 3 v0) (k0 : DataW.Trod enc Try.prog W 0 (fun _ => true) true 3 v0 d0 p0) (v1 : Value) (d1 : DataW H) (p1 : List MemPlace) (o1 : Value.okWide Try.prog W .any base 22 v1) (k1 : DataW.Trod enc Try.prog W 0 (fun _ => true) true 22 v1 d1 p1) :
    Calls Try.prog 3 #[v0, v1] W fun e w' => e = .returned (.bool true) ∧ Below W.heap.size W w' := by
  obtain ⟨m, rfl, _, _, _⟩ := open_int Try.underlying3 o0 k0
  obtain ⟨l, hl, hlen, _⟩ := open_Prs o1 k1
  exact mapsVectors_any m v1 l W hl.pairs hlen

theorem mapsVectors_own : ownKnob Try.prog.godebug = none := by kernel_rfl
theorem mapsVectors_laidOut : laidOutB Try.prog = true := by kernel_rfl

set_option maxRecDepth 100000 in
theorem mapsVectors_lifted (os : Os) (started : os.Started) (H : Type) (enc : TypeId × Value → H) :
    ReturnsInHanded {} Try.checked os 3 .any (Rows.mapsVectorsSpec.pre6 enc Try.prog Try.f3 Rows.mapsVectorsRow.domain false) (Rows.mapsVectorsSpec.post enc Try.prog Try.f3 false true false false) := by
  refine returnsInHanded_of_change (C := Try.checked) mapsVectors_own started (by kernel_rfl) Try.func3
    (ChangeSpec.witness6 (enc := enc) (C := Try.checked) false ⟨#[], #[.int .i64 0, .slice none 0 0], []⟩ 8 (by kernel_rfl) (by kernel_rfl) (by kernel_rfl) (by kernel_rfl)) ?_
  intro W base args ds gs before hval0 hW hcnd _
  have hval : ∀ (j : Nat) t v, Try.f3.params[j]? = some t → args[j]? = some v → Value.okWide Try.prog W .any base t v := hval0
  have hW' := hW
  obtain ⟨p, q, hA0, hV, rfl, hfz, hnd⟩ := hW
  have hA : DataW.TrodAll enc Try.prog W 0 (fun _ => true) true Try.f3.params.toList args.toList ds p := hA0
  rw [Try.params3] at hA hval
  obtain ⟨v0, vs0, d0, ds0, p0, q0, hargs, rfl, rfl, h0, r0⟩ := trodAll_cons hA
  obtain ⟨v1, vs1, d1, ds1, p1, q1, rfl, rfl, rfl, h1, r1⟩ := trodAll_cons r0
  obtain ⟨rfl, rfl, rfl⟩ := trodAll_nil r1
  obtain rfl : args = #[v0, v1] := by cases args; simp_all
  obtain ⟨rfl, rfl⟩ := trodVars_none hV
  have lt0 : ∀ x ∈ p0, x.block < W.heap.size := by obtain ⟨m, hm⟩ := h0; exact DataW.trod_lt m _ _ _ hm
  have lt1 : ∀ x ∈ p1, x.block < W.heap.size := by obtain ⟨m, hm⟩ := h1; exact DataW.trod_lt m _ _ _ hm
  have hw := mapsVectors_row enc W base v0 d0 p0 (hval 0 3 v0 rfl rfl) h0 v1 d1 p1 (hval 1 22 v1 rfl rfl) h1
  clear hA0 hval0
  refine hw.mono fun e W' ⟨he, bel⟩ => ?_
  subst he
  exact ⟨_, rfl, _, _, _, [], _, [], hW', trodAll_mk1 (shut_bool Try.underlying4 _), (trodAll_cons_mk (Below.trod mapsVectors_laidOut (by kernel_rfl) (of_decide_eq_true (by kernel_rfl)) h0 bel lt0) (trodAll_cons_mk (Below.trod mapsVectors_laidOut (by kernel_rfl) (of_decide_eq_true (by kernel_rfl)) h1 bel lt1) trodAll_mk0)), rfl, Below.frame bel _, fun h => by cases h⟩

/-- The statement. -/
theorem mapsVectors_holds : Rows.MapsVectorsSaid :=
  OpenClaim.holds_of_wide 3 Try.f3 rfl rfl rfl rfl rfl rfl rfl ⟨rfl, rfl, rfl, rfl, rfl⟩ rfl rfl rfl rfl rfl (by kernel_rfl) Try.func3 (by kernel_rfl)
    (of_decide_eq_true (by kernel_rfl)) (by unfold Func.isWrapper; first | (rw [if_pos (by decide +kernel)]; kernel_rfl) | (rw [if_neg (by decide +kernel)]; exact ⟨rfl, rfl⟩))
    (fun os started H enc _ => mapsVectors_lifted os started H enc)
end Go.Proofs.Ytajpbclcfjljnaa
