/-
  VecRoom: if the capacity is spent, the buffer has ErrLimit and stays within its capacity. Conditions: none beyond the statement's own.
-/
import Derived.Test.YtaoflhddcbmacaaVecPair
import Derived.Deep.QuietTactic
import Derived.BigQuiet
namespace Go.Proofs.Ytaoflhddcbmacaa
open Go Go.ChangeShapes Go.WideShapes Go.ChangeAt Go.RowKit Go.Joins Go.Deep
open Go.Proofs.Ytaoflhddcbmacaa.Ft (V3 vV okV ValsAt inlineB legalB packF codeF typedF allF)
set_option linter.unusedVariables false
set_option linter.unusedSimpArgs false

set_option maxRecDepth 100000 in
set_option maxHeartbeats 4000000 in
theorem vecRoom_any (a : Int) (lv : Value) (l : List (Int × Int)) (W : World) (hp : PairsAt W lv l) (hlen : l.length ≤ 9223372036854775807) (hcap : ∀ ad n c, lv = .slice ad n c → n ≤ c) :
    Calls Try.prog 5 #[.int .i64 a, lv] W fun r w' => r = .returned (.bool true) ∧ Below W.heap.size W w' := by
  have HP0 := Lib.hid hp
  obtain ⟨la, lc, rfl, hcell⟩ := hp
  clear hcell
  have hc := hcap la l.length lc rfl
  clear hcap
  obtain ⟨k, hk⟩ : ∃ k : Nat, min l.length 100 = k := ⟨_, rfl⟩
  have hk1 : k ≤ l.length := by omega
  have hk2 : k ≤ 100 := by omega
  have HP : Hid (∀ c2, PairsAt W (.slice la k c2) (l.take k)) := fun c2 => HP0.out.cut k hk1 c2
  have hlk : (l.take k).length = k := by rw [List.length_take]; omega
  go_enter Try.func5, Try.ntmps5
  go_wp2_with fail
  refine (bringL_any a 400 _ (by omega) (by omega)).mono ?_
  rintro r w1 ⟨rfl, e⟩
  subst e
  obtain ⟨m, hm⟩ : ∃ m : Nat, a % 400 = m := ⟨(a % 400).toNat, by omega⟩
  rw [hm]
  have hm2 : m < 400 := by omega
  clear hm
  obtain ⟨R, hR⟩ : ∃ R : Nat, 3 + (m : Int) = R := ⟨3 + m, by omega⟩
  have hR1 : 3 ≤ R := by omega
  have hR2 : R ≤ 402 := by omega
  go_wp2_with fail
  rw [show min (l.length : Int) 100 = (k : Int) by omega, Int.toNat_natCast]
  clear hR hm2 hk
  have e3 : ((zeros 3).length : Int) = 3 := rfl
  have hf1 : Calls Try.prog 11 #[.int .i64 (R : Int), .int .i64 3] w1 fun r w' => r = .returned (bptr w1.heap.size) ∧ Live w1 w' w1.heap.size (roomOf R) (putS (roomOf R) (zeros 3) ([], 0)) := filled_any R 3 w1 (by omega)
  have hro : roomOf (R : Int) = R := by unfold roomOf; omega
  rw [hro, put_fit _ _ _ (by rw [length_zeros]; simp; omega), List.nil_append] at hf1
  refine hf1.mono ?_
  rintro r w2 ⟨rfl, hl⟩
  have HLa := Lib.hid hl
  clear hl hf1 hro
  go_wp2_with fail
  have hf2 : Calls Try.prog 11 #[.int .i64 1048576, .int .i64 3] w2 fun r w' => r = .returned (bptr w2.heap.size) ∧ Live w2 w' w2.heap.size (roomOf 1048576) (putS (roomOf 1048576) (zeros 3) ([], 0)) := filled_any 1048576 3 w2 (by omega)
  rw [roomOf_big, filled_big 3 (by omega)] at hf2
  refine hf2.mono ?_
  rintro r w3 ⟨rfl, hl⟩
  have HBB := Lib.hid (LiveBB.make HLa.out hl)
  have HNE : Hid (w1.heap.size ≠ w2.heap.size) := by
    show _ ≠ _
    obtain ⟨o, hb, _⟩ := HLa.out
    have := hb.lt _ (.inl rfl)
    omega
  clear hl hf2 HLa
  go_wp2_with fail
  refine (values_any 3 _ _ _ ((HP.out lc).grew HBB.out.below) (by omega) (by omega) (by omega)).mono ?_
  rintro r w4 ⟨vv, rfl, hown, hg⟩
  have HO := Lib.hid hown
  have HG4 := Lib.hid hg
  obtain ⟨va, vc, rfl, hvc⟩ := own_form hown
  have HNR : Hid (∀ v ∈ valsF (l.take k) 3, Near 3 v) := near_vals _ 3 (by omega) (by omega)
  have hl3 : (valsF (l.take k) 3).length ≤ 100 := by rw [valsF_length]; omega
  obtain ⟨L, hLL⟩ : ∃ L, valsF (l.take k) 3 = L := ⟨_, rfl⟩
  rw [hLL] at HO HNR hl3 ⊢
  have HLL := Lib.hid hLL
  clear hown hg hvc hLL
  obtain ⟨x, hx⟩ : ∃ x, allF L (0, 0, 0) 3 1 = x := ⟨_, rfl⟩
  have hx1 : allF L (0, 0, 0) (zeros 3).length (if true = true then 1 else 0) = x := by rw [e3, if_pos rfl]; exact hx
  obtain ⟨_, _, hw, _⟩ := allF_near (n := 3) (ahead := 1) (.inr rfl) (by omega) (by omega) (by omega) HNR.out
  rw [hx] at hw
  have hNZ : ∀ v ∈ L, Near (zeros 3).length v := by rw [e3]; exact HNR.out
  have hzl : (zeros 3).length = 3 := rfl
  have hq := putF_ok (most := 1048576) (T := legalE) (len := true) (tagged := true) (kind := 10) (b := zeros 3) (l := L) (x := x) (legal_vals HNR.out) (by omega) (by omega) hNZ hx1 (by have := lenOf_le hw true true (zeros 3) L; omega)
  have hpl := length_pieces hw true true (zeros 3) L
  have hmin := lenOf_le hw true true (zeros 3) L
  obtain ⟨p, hpp⟩ : ∃ p : Int, ((zeros 3).length : Int) + padN (zeros 3) x + x = p := ⟨_, rfl⟩
  have hpad := padN_lt (l := zeros 3) hw
  have hxp := isW_pos hw
  rw [if_pos rfl, hpp] at hq
  have hp0 : 0 ≤ p := by rw [← hpp, e3]; omega
  have hp1 : p ≤ 1048576 := by rw [← hpp, e3]; omega
  have HX0 : Hid (∀ X, X = zeros 3 ++ (pieces x true true (zeros 3) L).flatten → (X.length : Int) = lenOf x true true (zeros 3) L) := by
    rintro X rfl
    rw [List.length_append]; omega
  obtain ⟨X, hX⟩ : ∃ X, zeros 3 ++ (pieces x true true (zeros 3) L).flatten = X := ⟨_, rfl⟩
  rw [hX] at hq
  have hXl := HX0.out X hX.symm
  have hXm : (X.length : Int) ≤ 1048576 := by omega
  have HQ := Lib.hid hq
  have HPP := Lib.hid hpp
  have HX1 := Lib.hid (show allF L (0, 0, 0) (zeros 3).length 1 = x from hx1)
  clear hpp hx1
  have HOKV := Lib.hid (okV_vals HNR.out)
  go_wp2_with fail
  obtain ⟨o, o', hb, hb', hap, hbel, h3, h4⟩ := HBB.out
  refine (put_fresh (zeros 3, 0) _ L hb hbel.size HO.out HG4.out h3.1 h3.2 (by omega) HOKV.out rfl).mono ?_
  rintro r w5 ⟨rfl, ht⟩
  have hgb := hb.grew HG4.out
  have hgb' := hb'.grew HG4.out
  have hbel4 : Below w1.heap.size w1 w4 := Below.trans hbel (Below.mono HG4.out hbel.size)
  by_cases hfit : lenOf x true true (zeros 3) L ≤ R
  · have hXR : (X.length : Int) ≤ R := by omega
    have hqa := putF_ok (most := (R : Int)) (T := legalE) (len := true) (tagged := true) (kind := 10) (b := zeros 3) (l := L) (x := x) (legal_vals HNR.out) (by omega) (by omega) hNZ (by rw [if_pos rfl]; exact HX1.out) hfit
    rw [if_pos rfl, HPP.out, hX] at hqa
    rw [hqa] at ht ⊢
    have HB5 := Lib.hid (LiveBB.step1 (s' := (X, 0)) hgb hgb' hap hbel4 ht ⟨hXR, h3.2⟩ h4)
    rw [show putV ((10, x, p), 0) = .tuple #[.agg #[.int .i64 10, .int .i64 x, .int .u64 p], .int .i64 0] from rfl]
    clear hq hpl hmin hpad hx hzl hNZ ht hgb hgb' hap hbel hbel4 h3 h4 hb hb' HBB HX0 hX hXl hfit
    go_wp2_with fail
    have hr5 := heap_alloc_new w5 (.cells #[.int .i64 10, .int .i64 x, .int .u64 p] 28)
    have hg5 := (Grew.refl w5).alloc (.cells #[.int .i64 10, .int .i64 x, .int .u64 p] 28)
    generalize (w5.alloc (.cells #[.int .i64 10, .int .i64 x, .int .u64 p] 28)) = w6 at *
    have HR6 := Lib.hid hr5
    have HB6 := Lib.hid (HB5.out.grew hg5)
    have hlt6 : w5.heap.size < w6.heap.size := (Array.getElem?_eq_some_iff.1 hr5).1
    have HLT6 := Lib.hid hlt6
    have HB5L : Hid (∀ o, BufAt w1.heap.size w5 w2.heap.size o (zeros 3) 1048576 0 → ∀ k, Own2 w2.heap.size o k → k < w5.heap.size) := fun o h => h.lt
    clear hr5 hlt6
    refine (values_any 3 _ _ _ ((HP.out lc).grew HB6.out.below) (by omega) (by omega) (by omega)).mono ?_
    rw [HLL.out]
    rintro r w7 ⟨vv2, rfl, hown2, hg7⟩
    have HO2 := Lib.hid hown2
    have HG7 := Lib.hid hg7
    obtain ⟨va2, vc2, rfl, _⟩ := own_form hown2
    clear hown2 hg7
    go_wp2_with fail
    obtain ⟨o, o', hb, hb', hap, hbel, h3, h4⟩ := HB5.out
    refine (put_fresh (zeros 3, 0) _ L (hb'.grew hg5) (Nat.le_trans hbel.size hg5.size) HO2.out HG7.out h4.1 h4.2 (by omega) HOKV.out rfl).mono ?_
    rw [HQ.out]
    rintro r w8 ⟨rfl, ht⟩
    have hg57 := hg5.trans HG7.out
    have HB8 := Lib.hid (LiveBB.step2 (t' := (X, 0)) (hb.grew hg57) (hb'.grew hg57) hap (Below.trans hbel (Below.mono hg57 hbel.size)) ht h3 ⟨hXm, h4.2⟩)
    have HR8 : Hid (w8.heap[w5.heap.size]? = some (.cells #[.int .i64 10, .int .i64 x, .int .u64 p] 28)) := by
      obtain ⟨_, _, _, hm⟩ := ht
      refine hm.heap (HG7.out.heap HR6.out) fun hq => ?_
      have := hb'.lt _ hq
      omega
    rw [show putV ((10, x, p), 0) = .tuple #[.agg #[.int .i64 10, .int .i64 x, .int .u64 p], .int .i64 0] from rfl]
    clear ht hg57 hg5 hap hbel h3 h4 hb hb' HB5 HB6 HB5L HR6 HLT6
    go_wp2_with fail
    have hr9 := heap_alloc_new w8 (.cells #[.int .i64 10, .int .i64 x, .int .u64 p] 28)
    have hg9 := (Grew.refl w8).alloc (.cells #[.int .i64 10, .int .i64 x, .int .u64 p] 28)
    generalize (w8.alloc (.cells #[.int .i64 10, .int .i64 x, .int .u64 p] 28)) = w9 at *
    have hv9 := hg9.heap HR8.out
    have HB9 := Lib.hid (HB8.out.grew hg9)
    refine (lenL HB9.out.two).mono ?_
    rintro r w' ⟨rfl, e⟩
    subst e
    clear hg9 HR8 HB8
    have c0 := row_cell hr9 0 _ rfl
    have c1 := row_cell hr9 1 _ rfl
    have c2 := row_cell hr9 2 _ rfl
    have d0 := row_cell hv9 0 _ rfl
    have d1 := row_cell hv9 1 _ rfl
    have d2 := row_cell hv9 2 _ rfl
    clear hr9 hv9
    go_wp2_with fail
    refine (lenL HB9.out.one).mono ?_
    rintro r w' ⟨rfl, e⟩
    subst e
    go_wp2_with fail
    refine (lenL HB9.out.two).mono ?_
    rintro r w' ⟨rfl, e⟩
    subst e
    go_wp2_with fail
    refine (works17_any _).mono ?_
    rintro r wa ⟨rfl, hga⟩
    have HGA : Hid (Below w1.heap.size w1 wa) := Below.trans HB9.out.below (Below.mono hga HB9.out.below.size)
    clear hga
    go_wp2
    go_ret
    exact ⟨rfl, HGA.out⟩
  · obtain ⟨f1, f2, f3⟩ := putF_full (most := (R : Int)) (T := legalE) (len := true) (tagged := true) (kind := 10) (b := zeros 3) (l := L) (x := x) (legal_vals HNR.out) (by omega) h3.1 (by omega) hNZ (by rw [if_pos rfl]; exact HX1.out) hfit
    have hXR : (R : Int) < X.length := by omega
    rw [f1]
    generalize (putF (R : Int) legalE true true 10 0 L (zeros 3, 0)).2 = sa at *
    obtain ⟨Y, ye⟩ := sa
    simp only at f2 f3
    subst f2
    have HB5 := Lib.hid (LiveBB.step1 (s' := (Y, 5)) hgb hgb' hap hbel4 ht ⟨f3, h3.2⟩ h4)
    rw [show putV ((0, 0, 0), 5) = .tuple #[.agg #[.int .i64 0, .int .i64 0, .int .u64 0], .int .i64 5] from rfl]
    clear hq hpl hmin hpad hx hzl hNZ ht hgb hgb' hap hbel hbel4 h3 h4 hb hb' HBB HX0 hX hXl hfit
    go_wp2_with fail
    have hr5 := heap_alloc_new w5 (.cells #[.int .i64 0, .int .i64 0, .int .u64 0] 28)
    have hg5 := (Grew.refl w5).alloc (.cells #[.int .i64 0, .int .i64 0, .int .u64 0] 28)
    generalize (w5.alloc (.cells #[.int .i64 0, .int .i64 0, .int .u64 0] 28)) = w6 at *
    have HR6 := Lib.hid hr5
    have HB6 := Lib.hid (HB5.out.grew hg5)
    have hlt6 : w5.heap.size < w6.heap.size := (Array.getElem?_eq_some_iff.1 hr5).1
    have HLT6 := Lib.hid hlt6
    have HB5L : Hid (∀ o, BufAt w1.heap.size w5 w2.heap.size o (zeros 3) 1048576 0 → ∀ k, Own2 w2.heap.size o k → k < w5.heap.size) := fun o h => h.lt
    clear hr5 hlt6
    refine (values_any 3 _ _ _ ((HP.out lc).grew HB6.out.below) (by omega) (by omega) (by omega)).mono ?_
    rw [HLL.out]
    rintro r w7 ⟨vv2, rfl, hown2, hg7⟩
    have HO2 := Lib.hid hown2
    have HG7 := Lib.hid hg7
    obtain ⟨va2, vc2, rfl, _⟩ := own_form hown2
    clear hown2 hg7
    go_wp2_with fail
    obtain ⟨o, o', hb, hb', hap, hbel, h3, h4⟩ := HB5.out
    refine (put_fresh (zeros 3, 0) _ L (hb'.grew hg5) (Nat.le_trans hbel.size hg5.size) HO2.out HG7.out h4.1 h4.2 (by omega) HOKV.out rfl).mono ?_
    rw [HQ.out]
    rintro r w8 ⟨rfl, ht⟩
    have hg57 := hg5.trans HG7.out
    have HB8 := Lib.hid (LiveBB.step2 (t' := (X, 0)) (hb.grew hg57) (hb'.grew hg57) hap (Below.trans hbel (Below.mono hg57 hbel.size)) ht h3 ⟨hXm, h4.2⟩)
    have HR8 : Hid (w8.heap[w5.heap.size]? = some (.cells #[.int .i64 0, .int .i64 0, .int .u64 0] 28)) := by
      obtain ⟨_, _, _, hm⟩ := ht
      refine hm.heap (HG7.out.heap HR6.out) fun hq => ?_
      have := hb'.lt _ hq
      omega
    rw [show putV ((10, x, p), 0) = .tuple #[.agg #[.int .i64 10, .int .i64 x, .int .u64 p], .int .i64 0] from rfl]
    clear ht hg57 hg5 hap hbel h3 h4 hb hb' HB5 HB6 HB5L HR6 HLT6
    go_wp2_with fail
    have hr9 := heap_alloc_new w8 (.cells #[.int .i64 10, .int .i64 x, .int .u64 p] 28)
    have hg9 := (Grew.refl w8).alloc (.cells #[.int .i64 10, .int .i64 x, .int .u64 p] 28)
    generalize (w8.alloc (.cells #[.int .i64 10, .int .i64 x, .int .u64 p] 28)) = w9 at *
    have hv9 := hg9.heap HR8.out
    have HB9 := Lib.hid (HB8.out.grew hg9)
    refine (lenL HB9.out.two).mono ?_
    rintro r w' ⟨rfl, e⟩
    subst e
    clear hg9 HR8 HB8
    have HV9 := Lib.hid hv9
    clear hr9 hv9
    go_wp2_with fail
    obtain ⟨o, o', hb, hb', hap, hbel, h3, h4⟩ := HB9.out
    refine (put_err (-1) 0 (Y, 5) (.slice none 0 0) [] hb hbel.size ⟨none, 0, rfl, fun i x hx => by simp at hx⟩ (by simp) (show (5 : Int) ≠ 0 by decide)).mono ?_
    rintro r wa ⟨rfl, ht⟩
    have HVA : Hid (wa.heap[w5.heap.size]? = some (.cells #[.int .i64 0, .int .i64 0, .int .u64 0] 28)) := by
      obtain ⟨_, _, _, hm⟩ := ht
      exact hm.heap HV9.out (hb.not_row HV9.out)
    have HBA := Lib.hid (LiveBB.step1 (s' := (Y, 5)) hb hb' hap hbel ht h3 h4)
    rw [show putV ((0, 0, 0), ((Y, (5 : Int)) : St).2) = .tuple #[.agg #[.int .i64 0, .int .i64 0, .int .u64 0], .int .i64 5] from rfl]
    clear ht hb hb' hap hbel h3 h4 HB9
    have hgc := (Grew.refl wa).alloc (.cells #[.int .i64 0, .int .i64 0, .int .u64 0] 28)
    have hvc := hgc.heap HVA.out
    have d0 := row_cell hvc 0 _ rfl
    have d1 := row_cell hvc 1 _ rfl
    have d2 := row_cell hvc 2 _ rfl
    have HBC := Lib.hid (HBA.out.grew hgc)
    clear hvc HBA HV9 hgc
    go_wp2_with fail
    refine (lenL HBC.out.one).mono ?_
    rintro r w' ⟨rfl, e⟩
    subst e
    go_wp2_with fail
    refine (errL HBC.out.one).mono ?_
    rintro r w' ⟨rfl, e⟩
    subst e
    go_wp2_with fail
    refine (works17_any _).mono ?_
    rintro r wb ⟨rfl, hgb⟩
    have HGB : Hid (Below w1.heap.size w1 wb) := Below.trans HBC.out.below (Below.mono hgb HBC.out.below.size)
    clear hgb
    go_wp2
    go_ret
    exact ⟨rfl, HGB.out⟩

set_option maxRecDepth 100000 in
theorem vecRoom_row {H : Type} (enc : TypeId × Value → H) (W : World) (base : Nat) (v0 : Value) (d0 : DataW H) (p0 : List MemPlace) (o0 : Value.okWide Try.prog W .any base 3 v0) (k0 : DataW.Trod enc Try.prog W 0 (fun _ => true) true 3 v0 d0 p0) (v1 : Value) (d1 : DataW H) (p1 : List MemPlace) (o1 : Value.okWide Try.prog W .any base 22 v1) (k1 : DataW.Trod enc Try.prog W 0 (fun _ => true) true 22 v1 d1 p1) :
    Calls Try.prog 5 #[v0, v1] W fun e w' => e = .returned (.bool true) ∧ Below W.heap.size W w' := by
  obtain ⟨m, rfl, _, _, _⟩ := open_int Try.underlying3 o0 k0
  obtain ⟨l, hl, hlen, _⟩ := open_Prs o1 k1
  exact vecRoom_any m v1 l W hl.pairs hlen hl.cap

theorem vecRoom_own : ownKnob Try.prog.godebug = none := by kernel_rfl
theorem vecRoom_laidOut : laidOutB Try.prog = true := by kernel_rfl

set_option maxRecDepth 100000 in
theorem vecRoom_lifted (os : Os) (started : os.Started) (H : Type) (enc : TypeId × Value → H) :
    ReturnsInHanded {} Try.checked os 5 .any (Rows.vecRoomSpec.pre6 enc Try.prog Try.f5 Rows.vecRoomRow.domain false) (Rows.vecRoomSpec.post enc Try.prog Try.f5 false true false false) := by
  refine returnsInHanded_of_change (C := Try.checked) vecRoom_own started (by kernel_rfl) Try.func5
    (ChangeSpec.witness6 (enc := enc) (C := Try.checked) false ⟨#[], #[.int .i64 0, .slice none 0 0], []⟩ 8 (by kernel_rfl) (by kernel_rfl) (by kernel_rfl) (by kernel_rfl)) ?_
  intro W base args ds gs before hval0 hW hcnd _
  have hval : ∀ (j : Nat) t v, Try.f5.params[j]? = some t → args[j]? = some v → Value.okWide Try.prog W .any base t v := hval0
  have hW' := hW
  obtain ⟨p, q, hA0, hV, rfl, hfz, hnd⟩ := hW
  have hA : DataW.TrodAll enc Try.prog W 0 (fun _ => true) true Try.f5.params.toList args.toList ds p := hA0
  rw [Try.params5] at hA hval
  obtain ⟨v0, vs0, d0, ds0, p0, q0, hargs, rfl, rfl, h0, r0⟩ := trodAll_cons hA
  obtain ⟨v1, vs1, d1, ds1, p1, q1, rfl, rfl, rfl, h1, r1⟩ := trodAll_cons r0
  obtain ⟨rfl, rfl, rfl⟩ := trodAll_nil r1
  obtain rfl : args = #[v0, v1] := by cases args; simp_all
  obtain ⟨rfl, rfl⟩ := trodVars_none hV
  have lt0 : ∀ x ∈ p0, x.block < W.heap.size := by obtain ⟨m, hm⟩ := h0; exact DataW.trod_lt m _ _ _ hm
  have lt1 : ∀ x ∈ p1, x.block < W.heap.size := by obtain ⟨m, hm⟩ := h1; exact DataW.trod_lt m _ _ _ hm
  have hw := vecRoom_row enc W base v0 d0 p0 (hval 0 3 v0 rfl rfl) h0 v1 d1 p1 (hval 1 22 v1 rfl rfl) h1
  clear hA0 hval0
  refine hw.mono fun e W' ⟨he, bel⟩ => ?_
  subst he
  exact ⟨_, rfl, _, _, _, [], _, [], hW', trodAll_mk1 (shut_bool Try.underlying4 _), (trodAll_cons_mk (Below.trod vecRoom_laidOut (by kernel_rfl) (of_decide_eq_true (by kernel_rfl)) h0 bel lt0) (trodAll_cons_mk (Below.trod vecRoom_laidOut (by kernel_rfl) (of_decide_eq_true (by kernel_rfl)) h1 bel lt1) trodAll_mk0)), rfl, Below.frame bel _, fun h => by cases h⟩

/-- The statement. -/
theorem vecRoom_holds : Rows.VecRoomSaid :=
  OpenClaim.holds_of_wide 5 Try.f5 rfl rfl rfl rfl rfl rfl rfl ⟨rfl, rfl, rfl, rfl, rfl⟩ rfl rfl rfl rfl rfl (by kernel_rfl) Try.func5 (by kernel_rfl)
    (of_decide_eq_true (by kernel_rfl)) (by unfold Func.isWrapper; first | (rw [if_pos (by decide +kernel)]; kernel_rfl) | (rw [if_neg (by decide +kernel)]; exact ⟨rfl, rfl⟩))
    (fun os started H enc _ => vecRoom_lifted os started H enc)
end Go.Proofs.Ytaoflhddcbmacaa
