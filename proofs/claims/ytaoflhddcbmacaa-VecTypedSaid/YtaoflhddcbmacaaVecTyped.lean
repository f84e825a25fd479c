/-
  VecTyped: a typed vector is the untyped one without tags, a fixed one also without the length. Conditions: none beyond the statement's own.
-/
import Derived.Test.YtaoflhddcbmacaaPD
import Derived.Deep.QuietTactic
import Derived.BigQuiet
import Derived.Deep.DeepCutAuto
import Derived.Deep.CutBlock
import Derived.StillTailTactics
namespace Go.Proofs.Ytaoflhddcbmacaa
open Go Go.ChangeShapes Go.WideShapes Go.ChangeAt Go.RowKit Go.Joins Go.Deep
open Go.Proofs.Ytaoflhddcbmacaa.Ft (V3 vV okV ValsAt inlineB legalB packF codeF typedF typed_any allF)
set_option linter.unusedVariables false
set_option linter.unusedSimpArgs false

theorem bytes_formT {w : World} {v : Value} {X : List UInt8} (h : BytesAt w v X) (hX : 0 < X.length) : ∃ bl off c, v = .slice (some ⟨bl, off, none⟩) X.length c ∧ X.length ≤ c ∧ bl < w.heap.size := by
  obtain ⟨a, c, rfl, hc, _, hcell⟩ := h
  obtain ⟨bl, off, rfl, h0⟩ := hcell 0 X[0] (List.getElem?_eq_getElem hX)
  exact ⟨bl, off, c, rfl, hc, World.block_lt_of_cell? w _ h0⟩
theorem typed_0 (E : Int) (he : E = 1 ∨ E = 2) : typedF E 0 = (E + 10, true) := by rcases he with rfl | rfl <;> kernel_rfl
theorem typed_m (E : Int) (he : E = 1 ∨ E = 2) (m : Nat) (h2 : 2 ≤ m) (h4 : m ≤ 4) : ∃ kd, typedF E (m : Int) = (kd, true) := by
  rcases (show m = 2 ∨ m = 3 ∨ m = 4 by omega) with rfl | rfl | rfl <;> rcases he with rfl | rfl <;> exact ⟨_, Prod.ext rfl (by kernel_rfl)⟩
set_option maxRecDepth 100000 in
set_option maxHeartbeats 8000000 in
theorem vecTyped_any (a : Int) (lv : Value) (l : List Int) (sg : Bool) (W : World) (hp : IntsAt W lv l) (hlen : l.length ≤ 9223372036854775807) :
    Calls Try.prog 4 #[.int .i64 a, lv, .bool sg] W fun r w' => r = .returned (.bool true) ∧ Below W.heap.size W w' := by
  have HP := Lib.hid hp
  obtain ⟨la, lc, rfl, hcell⟩ := hp
  have HC := Lib.hid hcell
  clear hcell
  go_enter Try.func4, Try.ntmps4
  go_wp2_with fail
  refine (bringL_any a 70000 _ (by omega) (by omega)).mono ?_
  rintro r w' ⟨rfl, e⟩
  rw [e]
  clear e w'
  obtain ⟨m, hm⟩ : ∃ m : Nat, a % 70000 = m := ⟨(a % 70000).toNat, by omega⟩
  rw [hm]
  have hm2 : m < 70000 := by omega
  obtain ⟨n, hn⟩ : ∃ n : Nat, 1 + (m : Int) = n := ⟨m + 1, by omega⟩
  have hn1 : 1 ≤ n := by omega
  have hn2 : n ≤ 70000 := by omega
  clear hm
  go_upto_if 34 with fail
  go_cut [7, 8, 9] (fun v e k w => v = .int .i64 (n : Int) ∧ ∃ E : Int, (E = 1 ∨ E = 2) ∧ e = .int .i64 E ∧ k = .int .i64 E ∧ w = W)
  case first =>
    cases sg
    · go_wp2_with fail
      go_meet
      case rel => exact ⟨rfl, 2, .inr rfl, rfl, rfl, rfl⟩
    · go_wp2_with fail
      go_meet
      case rel => exact ⟨rfl, 1, .inl rfl, rfl, rfl, rfl⟩
  case rest =>
    obtain ⟨rfl, E, hE, rfl, rfl, e⟩ := hcut
    replace e := e.symm
    subst e
    have HE := Lib.hid hE
    clear hE hn hm2
    go_upto_block 0 with fail
    go_cut [10] (fun v w => Hid (OwnPrs w W.heap.size v (kindPairs E l) ∧ Grew W w))
    case first =>
      go_wp2_with fail
      go_loopw [10, 11] (fun v i wr => ∃ k : Nat, k ≤ l.length ∧ k ≤ 300 ∧ i = .int .i64 k ∧ Hid (OwnPrs wr W.heap.size v (kindPairs E (l.take k)) ∧ Grew W wr)) (fun _ i _ => l.length - (intOf i).toNat)
      case atStart => exact ⟨0, Nat.zero_le _, by omega, rfl, by
        show _ ∧ _
        exact ⟨World.ownsRow_nil _ _ _ _, Grew.refl _⟩⟩
      case round =>
        obtain ⟨k, hk, hk2, rfl, HW⟩ := hrel
        by_cases hlt : k < l.length
        · by_cases h3 : k < 300
          · obtain ⟨x, hx⟩ : ∃ x, l[k]? = some x := ⟨_, List.getElem?_eq_getElem hlt⟩
            have HSN := Lib.hid (kindPairs_snoc (kind := E) hx h3)
            obtain ⟨_, b, off, rfl, c0⟩ := HC.out k x hx
            clear hx
            have d0 := HW.out.2.cell c0
            clear c0
            have h3i : (k : Int) < 300 := by omega
            obtain ⟨va, vc, rfl⟩ := prs_form HW.out.1
            have HLN : Hid ((kindPairs E (l.take k)).length ≤ 300) := by show _ ≤ _; rw [length_kindPairs]; omega
            generalize kindPairs E (l.take k) = L at *
            have HO2 : Hid (∀ o, OwnPrs (wr.alloc o) W.heap.size (.slice va L.length vc) L) := fun o => prs_grew HW.out.1 ((Grew.refl _).alloc o)
            have HGW := Lib.hid HW.out.2
            clear HW
            go_wp2_with (at_builtin; refine wpList_appendP rfl _ _ rfl W.heap.size (.slice va L.length vc) L rfl (HO2.out _) wr.heap.size (E, x) rfl (heap_alloc_new _ _) (by have := HLN.out; omega) (Nat.le_trans HGW.out.size (by simp)) ?_; intro v' w3 hown hgr; obtain ⟨va2, vc2, rfl⟩ := prs_form hown; have HG3 := Lib.hid (And.intro hown (grew_prs (HO2.out _) (HGW.out.alloc _) hgr)); clear hown hgr)
            go_roundw
            case rel =>
              refine ⟨k + 1, by omega, by omega, by go_num, ?_⟩
              show _ ∧ _
              rw [← HSN.out]
              have hh := HG3.out
              rw [List.length_append] at hh
              exact hh
            case measure => simp [intOf]; omega
          · have ek : k = 300 := by omega
            subst ek
            have hw := HW.out
            rw [kindPairs_all] at hw
            have HE2 : Hid (OwnPrs wr W.heap.size u10 (kindPairs E l) ∧ Grew W wr) := hw
            clear hw HW
            go_wp2_with fail
            go_meet
            case rel => exact HE2
        · have ek : k = l.length := by omega
          subst ek
          have hw := HW.out
          rw [List.take_length] at hw
          have HE2 : Hid (OwnPrs wr W.heap.size u10 (kindPairs E l) ∧ Grew W wr) := hw
          clear hw HW
          go_wp2_with fail
          all_goals
            go_meet
            case rel => exact HE2
    case rest =>
      have HW := hcut
      clear hcut HC HP
      go_wp2_with fail
      refine (values_any n _ (kindPairs E l) _ HW.out.1.pairs (by omega) (by omega) (by rw [length_kindPairs]; omega)).mono ?_
      rintro r w2 ⟨vv, rfl, hown, hg⟩
      have HG2 : Hid (Grew W w2) := HW.out.2.trans hg
      have HO := Lib.hid hown
      obtain ⟨va, vc, rfl, _⟩ := own_form hown
      have HNR : Hid (∀ v ∈ valsF (kindPairs E l) n, Near n v) := near_vals _ n (by omega) (by omega)
      have HOK1 : Hid (OneKind E (valsF (kindPairs E l) n)) := oneKind E HE.out l n
      have hl3 : (valsF (kindPairs E l) n).length ≤ 300 := by rw [valsF_length]; omega
      generalize valsF (kindPairs E l) n = L at *
      clear hown hg HW
      go_wp2_with fail
      refine (filled_any 1048576 n _ (by omega)).mono ?_
      rintro r w3 ⟨rfl, hl⟩
      rw [roomOf_big, filled_big n (by omega)] at hl
      have HL := Lib.hid hl
      clear hl
      go_wp2_with fail
      refine (filled_any 1048576 n _ (by omega)).mono ?_
      rintro r w4 ⟨rfl, hl⟩
      rw [roomOf_big, filled_big n (by omega)] at hl
      have HBB := Lib.hid (LiveBB.make HL.out hl)
      clear hl HL
      have hzl : (zeros n).length = n := length_zeros n
      obtain ⟨x, hx⟩ : ∃ x, allF L (0, 0, 0) n 1 = x := ⟨_, rfl⟩
      obtain ⟨_, _, hw, _⟩ := allF_near (n := n) (ahead := 1) (.inr rfl) (by omega) (by omega) (by omega) HNR.out
      rw [hx] at hw
      have hNZ : ∀ v ∈ L, Near (zeros n).length v := by rw [hzl]; exact HNR.out
      have hx1 : allF L (0, 0, 0) (zeros n).length (if true = true then 1 else 0) = x := by rw [hzl, if_pos rfl]; exact hx
      have hqa := putF_ok (most := 1048576) (T := legalE) (len := true) (tagged := true) (kind := 10) (b := zeros n) (l := L) (x := x) (legal_vals HNR.out) (by omega) (by omega) hNZ hx1 (by have := lenOf_le hw true true (zeros n) L; omega)
      have hqb := putF_ok (most := 1048576) (T := takesE E) (len := true) (tagged := false) (kind := E + 10) (b := zeros n) (l := L) (x := x) (oneKind_takes HOK1.out) (by omega) (by omega) hNZ hx1 (by have := lenOf_le hw true false (zeros n) L; omega)
      obtain ⟨p, hpp⟩ : ∃ p : Int, ((zeros n).length : Int) + padN (zeros n) x + x = p := ⟨_, rfl⟩
      rw [if_pos rfl, hpp] at hqa hqb
      have hpad := padN_lt (l := zeros n) hw
      have hxp := isW_pos hw
      have hp0 : 0 ≤ p := by rw [← hpp, hzl]; omega
      have hp1 : p ≤ 100000 := by rw [← hpp, hzl]; omega
      obtain ⟨hXY, A, hYA, hAl⟩ := typed_plain (L := L) hw hpp
      obtain ⟨X, hX⟩ : ∃ X, zeros n ++ (pieces x true true (zeros n) L).flatten = X := ⟨_, rfl⟩
      obtain ⟨Y, hY⟩ : ∃ Y, zeros n ++ (pieces x true false (zeros n) L).flatten = Y := ⟨_, rfl⟩
      rw [hX] at hqa hXY
      rw [hY] at hqb hXY hYA
      have hXl : X.length = Y.length + L.length := by rw [hXY, List.length_append, List.length_map]
      have hYl : (Y.length : Int) = p + x * L.length := by rw [hYA, List.length_append]; have := length_encL hw L p; omega
      have hxm : x * (L.length : Int) ≤ 8 * L.length := Int.mul_le_mul_of_nonneg_right hxp.2 (by omega)
      have hxm0 : 0 ≤ x * (L.length : Int) := Int.mul_nonneg (by omega) (by omega)
      have hYm : (Y.length : Int) ≤ 200000 := by omega
      have hYp : p ≤ (Y.length : Int) := by omega
      have hYx : x * (L.length : Int) ≤ (Y.length : Int) := by omega
      have hXm : (X.length : Int) ≤ 200300 := by omega
      have hYX : (Y.length : Int) ≤ X.length := by omega
      have hne : ((X.length : Int) != (Y.length : Int) + (L.length : Int)) = false := by simp; omega
      have hYn : 1 ≤ Y.length := by omega
      have HTK : Hid (X.take Y.length = Y) := by show _ = _; rw [hXY]; exact List.take_left' rfl
      have HXL := Lib.hid hXl
      have HYA := Lib.hid (And.intro hYA hAl)
      have HQA := Lib.hid hqa
      have HQB := Lib.hid hqb
      have HHW := Lib.hid hw
      have HX0 := Lib.hid hx
      have HYL := Lib.hid hYl
      clear hqa hqb hpp hpad hXY hYA hAl hX hY hXl hYl hx hx1 hNZ hxm hxm0 hzl hw
      go_wp2_with fail
      obtain ⟨o, o', hb, hb', hap, hbel, h3, h4⟩ := HBB.out
      refine (put_un (zeros n, 0) _ L hb hbel.size h3.1 h3.2 (HO.out.vals.grew hbel) (by omega) (okV_vals HNR.out) ?_ rfl).mono ?_
      · intro ad n' c' e
        have hlt := own_lt HO.out e
        exact ⟨Nat.lt_of_lt_of_le hlt hbel.size, fun hq => by have := hb.ge _ hq; omega⟩
      rw [HQA.out]
      rintro r w5 ⟨rfl, ht⟩
      rw [show putV ((10, x, p), 0) = .tuple #[.agg #[.int .i64 10, .int .i64 x, .int .u64 p], .int .i64 0] from rfl]
      have HB5 := Lib.hid (LiveBB.step1 (s' := (X, 0)) hb hb' hap hbel ht ⟨by show (X.length : Int) ≤ 1048576; omega, h3.2⟩ h4)
      clear ht hb hb' hap hbel h3 h4 HBB
      go_wp2_with fail
      have hr5 := heap_alloc_new w5 (.cells #[.int .i64 10, .int .i64 x, .int .u64 p] 28)
      have hg5 := (Grew.refl w5).alloc (.cells #[.int .i64 10, .int .i64 x, .int .u64 p] 28)
      generalize (w5.alloc (.cells #[.int .i64 10, .int .i64 x, .int .u64 p] 28)) = w6 at *
      have HB6 := Lib.hid (HB5.out.grew hg5)
      have HR6 := Lib.hid hr5
      clear hr5 hg5 HB5
      obtain ⟨o, o', hb, hb', hap, hbel, h3, h4⟩ := HB6.out
      refine (put_ty0 E (E + 10) (typed_0 E HE.out) (by rcases HE.out with rfl | rfl <;> decide) (zeros n, 0) _ L hb' hbel.size h4.1 h4.2 (HO.out.vals.grew hbel) (by omega) (okV_vals HNR.out) ?_ rfl).mono ?_
      · intro ad n' c' e
        have hlt := own_lt HO.out e
        exact ⟨Nat.lt_of_lt_of_le hlt hbel.size, fun hq => by have := hb'.ge _ hq; omega⟩
      rw [HQB.out]
      rintro r w7 ⟨rfl, ht⟩
      rw [show putV ((E + 10, x, p), 0) = .tuple #[.agg #[.int .i64 (E + 10), .int .i64 x, .int .u64 p], .int .i64 0] from rfl]
      have HR7 : Hid (w7.heap[w5.heap.size]? = some (.cells #[.int .i64 10, .int .i64 x, .int .u64 p] 28)) := by
        obtain ⟨_, _, _, hm⟩ := ht
        exact hm.heap HR6.out (hb'.not_row HR6.out)
      have HB7 := Lib.hid (LiveBB.step2 (t' := (Y, 0)) hb hb' hap hbel ht h3 ⟨by show (Y.length : Int) ≤ 1048576; omega, h4.2⟩)
      clear ht hb hb' hap hbel h3 h4 HB6 HR6
      go_wp2_with fail
      have hr7 := heap_alloc_new w7 (.cells #[.int .i64 (E + 10), .int .i64 x, .int .u64 p] 28)
      have hg7 := (Grew.refl w7).alloc (.cells #[.int .i64 (E + 10), .int .i64 x, .int .u64 p] 28)
      generalize (w7.alloc (.cells #[.int .i64 (E + 10), .int .i64 x, .int .u64 p] 28)) = w8 at *
      have HB8 := Lib.hid (HB7.out.grew hg7)
      have HRA := Lib.hid (hg7.heap HR7.out)
      have HRB := Lib.hid hr7
      clear hr7 hg7 HB7 HR7
      refine (bytesL HB8.out.one).mono ?_
      rintro r w9 ⟨vx, rfl, hvx, _, hg9⟩
      replace hvx : BytesAt w9 vx X := hvx
      have HVX := Lib.hid hvx
      obtain ⟨xbl, xoff, xc, rfl, hxc, hxbl⟩ := bytes_formT hvx (by omega)
      have HB9 := Lib.hid (HB8.out.grew hg9)
      replace HRA := Lib.hid (hg9.heap HRA.out)
      replace HRB := Lib.hid (hg9.heap HRB.out)
      clear hvx hg9 HB8
      go_wp2_with fail
      refine (bytesL HB9.out.two).mono ?_
      rintro r w10 ⟨vy, rfl, hvy, _, hg10⟩
      replace hvy : BytesAt w10 vy Y := hvy
      have HVY := Lib.hid hvy
      obtain ⟨ybl, yoff, yc, rfl, hyc, hybl⟩ := bytes_formT hvy (by omega)
      have HB10 := Lib.hid (HB9.out.grew hg10)
      replace HVX := Lib.hid (BytesAt.grew HVX.out hg10)
      replace HRA := Lib.hid (hg10.heap HRA.out)
      replace HRB := Lib.hid (hg10.heap HRB.out)
      clear hvy hg10 HB9
      go_wp2_with fail
      refine (typed_any E 0 _).mono ?_
      rw [typed_0 E HE.out]
      rintro r w11 ⟨rfl, hg11⟩
      have HG11 : Hid (Grew W w11) := HG2.out.trans (Grew.trans HB10.out.below hg11)
      replace HVX := Lib.hid (BytesAt.grew HVX.out hg11)
      replace HVY := Lib.hid (BytesAt.grew HVY.out hg11)
      replace HRA := Lib.hid (hg11.heap HRA.out)
      have hrb := hg11.heap HRB.out
      have HSZ : Hid (w2.heap.size ≤ w11.heap.size) := Nat.le_trans HB10.out.below.size hg11.size
      have HV11 : Hid (ValsAt w11 (.slice va L.length vc) L) := HO.out.vals.grew (Grew.trans HB10.out.below hg11)
      have hra := HRA.out
      have c0 := row_cell hra 0 _ rfl
      have c1 := row_cell hra 1 _ rfl
      have c2 := row_cell hra 2 _ rfl
      have d0 := row_cell hrb 0 _ rfl
      have d1 := row_cell hrb 1 _ rfl
      have d2 := row_cell hrb 2 _ rfl
      clear hg11 HRB hra hrb HB10
      go_wp2_with fail
      have hcx := bytes_cut HVX.out 0 Y.length xc (by omega) (by omega)
      rw [Nat.add_zero, List.drop_zero, HTK.out] at hcx
      refine (eqBytes_any _ _ _ _ hcx HVY.out).mono ?_
      rintro r w' ⟨rfl, e⟩
      rw [e]
      clear e w' hcx
      rw [decide_eq_true (rfl : Y = Y)]
      by_cases hb2 : L.length < 2
      · go_wp2_with fail
        refine (works17_any _).mono ?_
        rintro r wz ⟨rfl, hgz⟩
        have HGZ : Hid (Grew W wz) := HG11.out.trans hgz
        clear hgz
        go_wp2
        go_ret
        exact ⟨rfl, HGZ.out⟩
      · by_cases hb4 : 4 < L.length
        · go_wp2_with fail
          refine (works17_any _).mono ?_
          rintro r wz ⟨rfl, hgz⟩
          have HGZ : Hid (Grew W wz) := HG11.out.trans hgz
          clear hgz
          go_wp2
          go_ret
          exact ⟨rfl, HGZ.out⟩
        · obtain ⟨kd, hkd⟩ := typed_m E HE.out L.length (by omega) (by omega)
          have HKD := Lib.hid hkd
          clear hkd d0 d1 d2 hne c2 c0
          go_wp2_with fail
          refine (filled_any 1048576 n _ (by omega)).mono ?_
          rintro r w12 ⟨rfl, hl⟩
          rw [roomOf_big, filled_big n (by omega)] at hl
          have HL := Lib.hid hl
          clear hl
          have hzl : (zeros n).length = n := length_zeros n
          obtain ⟨x0, hx0⟩ : ∃ x0, allF L (0, 0, 0) n 0 = x0 := ⟨_, rfl⟩
          obtain ⟨_, _, hw0, _⟩ := allF_near (n := n) (ahead := 0) (.inl rfl) (by omega) (by omega) (by omega) HNR.out
          rw [hx0] at hw0
          have hle := fixed_le (n := n) (L := L) (by omega) (by omega) (by omega) HNR.out (oneKind_inline HOK1.out)
          rw [hx0, HX0.out] at hle
          have hNZ : ∀ v ∈ L, Near (zeros n).length v := by rw [hzl]; exact HNR.out
          have hqc := putF_ok (most := 1048576) (T := takesE E) (len := false) (tagged := false) (kind := kd) (b := zeros n) (l := L) (x := x0) (oneKind_takes HOK1.out) (by omega) (by omega) hNZ (by rw [hzl, if_neg (by decide)]; exact hx0) (by have := lenOf_le hw0 false false (zeros n) L; omega)
          obtain ⟨p0, hpp0⟩ : ∃ p0 : Int, ((zeros n).length : Int) + padN (zeros n) x0 = p0 := ⟨_, rfl⟩
          rw [if_neg (by decide), Int.add_zero, hpp0] at hqc
          have hpad := padN_lt (l := zeros n) hw0
          have hxp0 := isW_pos hw0
          have hq0 : 0 ≤ p0 := by rw [← hpp0, hzl]; omega
          have hq1 : p0 ≤ 100000 := by rw [← hpp0, hzl]; omega
          obtain ⟨A0, hZA, hZl⟩ := fixed_plain (L := L) hw0 hpp0
          obtain ⟨Z, hZ⟩ : ∃ Z, zeros n ++ (pieces x0 false false (zeros n) L).flatten = Z := ⟨_, rfl⟩
          rw [hZ] at hqc hZA
          have hML0 : 0 ≤ (L.length : Int) * x0 := Int.mul_nonneg (by omega) (by omega)
          have hML1 : (L.length : Int) * x0 ≤ 32 := by have := Int.mul_le_mul (show (L.length : Int) ≤ 4 by omega) hxp0.2 (by omega) (by omega); omega
          have hZlen : (Z.length : Int) = p0 + (L.length : Int) * x0 := by rw [hZA, List.length_append]; have := length_encL hw0 L p0; rw [Int.mul_comm]; omega
          have hMZ : (L.length : Int) * x0 ≤ Z.length := by omega
          have hMY : (L.length : Int) * x0 ≤ Y.length := by
            have h1 := Int.mul_le_mul_of_nonneg_left hle (show (0 : Int) ≤ L.length by omega)
            rw [Int.mul_comm (L.length : Int) x] at h1
            omega
          have hZm : (Z.length : Int) ≤ 200000 := by omega
          have hZ1 : 1 ≤ Z.length := by
            have h1 := Int.mul_le_mul hxp0.1 (show (1 : Int) ≤ L.length by omega) (by omega) (by omega)
            rw [Int.mul_comm x0] at h1
            omega
          have HZD : Hid (Z.drop p0.toNat = (encL x0 p0 L).flatten) := by
            show _ = _
            rw [hZA, show p0.toNat = A0.length by omega, List.drop_left]
          have HYD : Hid (x0 = x → Y.drop p.toNat = (encL x0 p0 L).flatten ∧ p = (Y.length : Int) - (L.length : Int) * x0) := by
            show _ → _
            intro e
            obtain ⟨h1, h2⟩ := HYA.out
            have h3 := HYL.out
            refine ⟨?_, ?_⟩
            · rw [h1, show p.toNat = A.length by omega, List.drop_left, e, encL_inline x L p p0 (oneKind_inline HOK1.out)]
            · rw [e, Int.mul_comm]; omega
          have HZP : Hid ((Z.length : Int) - (L.length : Int) * x0 = p0) := by show _ = _; omega
          have HQC := Lib.hid hqc
          clear hqc hpp0 hpad hZA hZl hZ hx0 hZlen hNZ hzl hw0
          go_wp2_with fail
          obtain ⟨o, hb, hbel, h3, h4⟩ := HL.out
          refine (put_fix E kd (zeros n, 0) _ L HKD.out (by omega) hb hbel.size h3 h4 (HV11.out.grew hbel) (by omega) (okV_vals HNR.out) ?_ rfl).mono ?_
          · intro ad n' c' e
            have hlt := own_lt HO.out e
            have hsz := HSZ.out
            exact ⟨by have := hbel.size; omega, fun hq => by have := hb.ge _ hq; omega⟩
          rw [HQC.out]
          rintro r w13 ⟨rfl, ht⟩
          rw [show putV ((kd, x0, p0), 0) = .tuple #[.agg #[.int .i64 kd, .int .i64 x0, .int .u64 p0], .int .i64 0] from rfl]
          have HL13 := Lib.hid (Live.turn (s' := (Z, 0)) hb hbel ht (by show (Z.length : Int) ≤ 1048576; omega) h4)
          clear ht hb hbel h3 h4 HL
          go_wp2_with fail
          have hr13 := heap_alloc_new w13 (.cells #[.int .i64 kd, .int .i64 x0, .int .u64 p0] 28)
          have hg13 := (Grew.refl w13).alloc (.cells #[.int .i64 kd, .int .i64 x0, .int .u64 p0] 28)
          generalize (w13.alloc (.cells #[.int .i64 kd, .int .i64 x0, .int .u64 p0] 28)) = w14 at *
          have HL14 := Lib.hid (HL13.out.grew hg13)
          refine (bytesL HL14.out).mono ?_
          rintro r w15 ⟨vz, rfl, hvz, _, hg15⟩
          replace hvz : BytesAt w15 vz Z := hvz
          have HVZ := Lib.hid hvz
          obtain ⟨zbl, zoff, zc, rfl, hzc, hzbl⟩ := bytes_formT hvz (by omega)
          have HG15 : Hid (Grew w11 w15) := Grew.trans HL14.out.below hg15
          have HR15 := Lib.hid (hg15.heap hr13)
          clear hvz hg15 hg13 hr13 HL13 HL14 c1
          go_wp2_with fail
          refine (typed_any E (L.length : Int) _).mono ?_
          rw [HKD.out]
          rintro r w16 ⟨rfl, hg16⟩
          have HG16 : Hid (Grew w11 w16) := HG15.out.trans hg16
          have HVZ16 := Lib.hid (BytesAt.grew HVZ.out hg16)
          have hru := hg16.heap HR15.out
          have hra := HG16.out.heap HRA.out
          have e0 := row_cell hru 0 _ rfl
          have e1 := row_cell hru 1 _ rfl
          have e2 := row_cell hru 2 _ rfl
          have c1 := row_cell hra 1 _ rfl
          have HVY16 := Lib.hid (BytesAt.grew HVY.out HG16.out)
          have HG17 : Hid (Grew W w16) := HG11.out.trans HG16.out
          clear hg16 hru hra HG15 HR15 HVZ
          go_wp2_with fail
          by_cases hxx : x0 = x
          · have hxb : (x0 != x) = false := by simp [hxx]
            obtain ⟨HYD1, HYD2⟩ := HYD.out hxx
            have hw1 : IntKind.i64.wrap ((Z.length : Int) - (L.length : Int) * x0) = p0 := by rw [IntKind.wrap_i64, HZP.out]; omega
            have hw2 : IntKind.u64.wrap p0 = p0 := by rw [IntKind.wrap_u64]; omega
            have hw3 : IntKind.i64.wrap ((Y.length : Int) - (L.length : Int) * x0) = p := by rw [IntKind.wrap_i64, ← HYD2]; omega
            have hM1 : 1 ≤ (L.length : Int) * x0 := by
              have h1 := Int.mul_le_mul (show (1 : Int) ≤ L.length by omega) hxp0.1 (by omega) (by omega)
              omega
            have hpz : p0 ≤ (Z.length : Int) := by have := HZP.out; omega
            have hzne : ¬ (zc = p0.toNat) := by have := HZP.out; omega
            have hyne : ¬ (yc = p.toNat) := by omega
            have HLEZ := Lib.hid (And.intro hpz (And.intro hYp (And.intro hzc (And.intro hyc hq0))))
            have HYD1' := Lib.hid HYD1
            clear HYD1 HYD2 hxx
            clear hML0 hML1 hMZ hMY hM1 hp1 hYm hYx hXm hYX hYn hn1 hn2 hlen hl3 hb2 hb4 hxp hxp0 hq1 hZm hZ1 hxc hyc hzc hxbl hybl hzbl
            refine wp_region_still_tail 48 (by kernel_rfl) (by kernel_rfl) ?_
            simp only [List.take_succ_cons, List.take_zero, List.drop_succ_cons, List.drop_zero]
            obtain ⟨wd, hwd, hgd⟩ : ∃ wd, wd = { w16 with drawn := w16.drawn + 1 } ∧ Grew w16 wd := ⟨_, rfl, (Grew.refl _).drew⟩
            rw [← hwd]
            clear hwd
            replace e0 := hgd.cell e0
            replace e1 := hgd.cell e1
            replace e2 := hgd.cell e2
            replace c1 := hgd.cell c1
            have HG18 := Lib.hid (HG17.out.trans hgd)
            have HVZ18 := Lib.hid (BytesAt.grew HVZ16.out hgd)
            have HVY18 := Lib.hid (BytesAt.grew HVY16.out hgd)
            clear hgd
            iterate 44
              refine wpStill_step (fun K hK => ?_)
              go_simp
              refine hK _ ?_
              clear hK K
            obtain ⟨z1, z2, z3, z4, z5⟩ := HLEZ.out
            have hcz := bytes_cut HVZ18.out p0.toNat (Z.length - p0.toNat) (zc - p0.toNat) (by omega) (by omega)
            rw [List.take_of_length_le (by simp), HZD.out] at hcz
            have hcy := bytes_cut HVY18.out p.toNat (Y.length - p.toNat) (yc - p.toNat) (by omega) (by omega)
            rw [List.take_of_length_le (by simp), HYD1'.out] at hcy
            have HCC := Lib.hid (And.intro hcz hcy)
            clear hcz hcy
            refine wpStill_step (fun K hK => ?_)
            go_simp
            refine ⟨_, eqBytes_any _ _ _ _ HCC.out.1 HCC.out.2, hK _ ?_⟩
            clear hK K
            rw [decide_eq_true (rfl : (encL x0 p0 L).flatten = (encL x0 p0 L).flatten)]
            clear hw1 hw2 hw3 hpz hzne hyne
            iterate 3
              refine wpStill_step (fun K hK => ?_)
              go_simp
              refine hK _ ?_
              clear hK K
            refine wpStill_nil ?_
            go_wp2_with fail
            refine (works17_any _).mono ?_
            rintro r wz ⟨rfl, hgz⟩
            have HGZ : Hid (Grew W wz) := HG18.out.trans hgz
            clear hgz
            go_wp2
            go_ret
            exact ⟨rfl, HGZ.out⟩
          · have HXB : Hid ((x0 != x) = true) := by show _ = _; simp [hxx]
            have hw1 : IntKind.i64.wrap ((Z.length : Int) - (L.length : Int) * x0) = p0 := by rw [IntKind.wrap_i64, HZP.out]; omega
            have hw2 : IntKind.u64.wrap p0 = p0 := by rw [IntKind.wrap_u64]; omega
            have hxl : x0 ≤ x := by omega
            clear hxx
            clear HYD
            clear hML0 hML1 hMZ hMY hp1 hYm hYx hXm hYX hYn hn1 hn2 hlen hl3 hb2 hb4 hxp hxp0 hq1 hZm hZ1 hxc hyc hzc hxbl hybl hzbl hYp
            refine wp_region_still_tail 48 (by kernel_rfl) (by kernel_rfl) ?_
            simp only [List.take_succ_cons, List.take_zero, List.drop_succ_cons, List.drop_zero]
            obtain ⟨wd, hwd, hgd⟩ : ∃ wd, wd = { w16 with drawn := w16.drawn + 1 } ∧ Grew w16 wd := ⟨_, rfl, (Grew.refl _).drew⟩
            rw [← hwd]
            clear hwd
            replace e0 := hgd.cell e0
            replace e1 := hgd.cell e1
            replace e2 := hgd.cell e2
            replace c1 := hgd.cell c1
            have HG18 := Lib.hid (HG17.out.trans hgd)
            have HVZ18 := Lib.hid (BytesAt.grew HVZ16.out hgd)
            have HVY18 := Lib.hid (BytesAt.grew HVY16.out hgd)
            clear hgd
            iterate 31
              refine wpStill_step (fun K hK => ?_)
              go_simp
              refine hK _ ?_
              clear hK K
            generalize hbb : (x0 != x) = bb
            have HBB : Hid (bb = true) := by show _ = _; rw [← hbb]; exact HXB.out
            clear hbb
            iterate 1
              refine wpStill_step (fun K hK => ?_)
              go_simp
              refine hK _ ?_
              clear hK K
            iterate 13
              refine wpStill_step (fun K hK => ?_)
              refine ite_no (by rw [HBB.out]; rfl) ?_
              go_simp
              refine hK _ ?_
              clear hK K
            rw [HBB.out]
            iterate 3
              refine wpStill_step (fun K hK => ?_)
              go_simp
              refine hK _ ?_
              clear hK K
            refine wpStill_nil ?_
            go_wp2_with fail
            refine (works17_any _).mono ?_
            rintro r wz ⟨rfl, hgz⟩
            have HGZ : Hid (Grew W wz) := HG18.out.trans hgz
            clear hgz
            go_wp2
            go_ret
            exact ⟨rfl, HGZ.out⟩

set_option maxRecDepth 100000 in
theorem vecTyped_row {H : Type} (enc : TypeId × Value → H) (W : World) (base : Nat) (v0 : Value) (d0 : DataW H) (p0 : List MemPlace) (o0 : Value.okWide Try.prog W .any base 3 v0) (k0 : DataW.Trod enc Try.prog W 0 (fun _ => true) true 3 v0 d0 p0) (v1 : Value) (d1 : DataW H) (p1 : List MemPlace) (o1 : Value.okWide Try.prog W .any base 37 v1) (k1 : DataW.Trod enc Try.prog W 0 (fun _ => true) true 37 v1 d1 p1) (v2 : Value) (d2 : DataW H) (p2 : List MemPlace) (o2 : Value.okWide Try.prog W .any base 4 v2) (k2 : DataW.Trod enc Try.prog W 0 (fun _ => true) true 4 v2 d2 p2) :
    Calls Try.prog 4 #[v0, v1, v2] W fun e w' => e = .returned (.bool true) ∧ Below W.heap.size W w' := by
  obtain ⟨m, rfl, _, _, _⟩ := open_int Try.underlying3 o0 k0
  obtain ⟨l, hl, hlen⟩ := open_intlist o1 k1
  obtain ⟨sg, rfl, _⟩ := open_bool Try.underlying4 o2 k2
  exact vecTyped_any m v1 l sg W hl hlen

theorem vecTyped_own : ownKnob Try.prog.godebug = none := by kernel_rfl
theorem vecTyped_laidOut : laidOutB Try.prog = true := by kernel_rfl

set_option maxRecDepth 100000 in
theorem vecTyped_lifted (os : Os) (started : os.Started) (H : Type) (enc : TypeId × Value → H) :
    ReturnsInHanded {} Try.checked os 4 .any (Rows.vecTypedSpec.pre6 enc Try.prog Try.f4 Rows.vecTypedRow.domain false) (Rows.vecTypedSpec.post enc Try.prog Try.f4 false true false false) := by
  refine returnsInHanded_of_change (C := Try.checked) vecTyped_own started (by kernel_rfl) Try.func4
    (ChangeSpec.witness6 (enc := enc) (C := Try.checked) false ⟨#[], #[.int .i64 0, .slice none 0 0, .bool false], []⟩ 8 (by kernel_rfl) (by kernel_rfl) (by kernel_rfl) (by kernel_rfl)) ?_
  intro W base args ds gs before hval0 hW hcnd _
  have hval : ∀ (j : Nat) t v, Try.f4.params[j]? = some t → args[j]? = some v → Value.okWide Try.prog W .any base t v := hval0
  have hW' := hW
  obtain ⟨p, q, hA0, hV, rfl, hfz, hnd⟩ := hW
  have hA : DataW.TrodAll enc Try.prog W 0 (fun _ => true) true Try.f4.params.toList args.toList ds p := hA0
  rw [Try.params4] at hA hval
  obtain ⟨v0, vs0, d0, ds0, p0, q0, hargs, rfl, rfl, h0, r0⟩ := trodAll_cons hA
  obtain ⟨v1, vs1, d1, ds1, p1, q1, rfl, rfl, rfl, h1, r1⟩ := trodAll_cons r0
  obtain ⟨v2, vs2, d2, ds2, p2, q2, rfl, rfl, rfl, h2, r2⟩ := trodAll_cons r1
  obtain ⟨rfl, rfl, rfl⟩ := trodAll_nil r2
  obtain rfl : args = #[v0, v1, v2] := by cases args; simp_all
  obtain ⟨rfl, rfl⟩ := trodVars_none hV
  have lt0 : ∀ x ∈ p0, x.block < W.heap.size := by obtain ⟨m, hm⟩ := h0; exact DataW.trod_lt m _ _ _ hm
  have lt1 : ∀ x ∈ p1, x.block < W.heap.size := by obtain ⟨m, hm⟩ := h1; exact DataW.trod_lt m _ _ _ hm
  have lt2 : ∀ x ∈ p2, x.block < W.heap.size := by obtain ⟨m, hm⟩ := h2; exact DataW.trod_lt m _ _ _ hm
  have hw := vecTyped_row enc W base v0 d0 p0 (hval 0 3 v0 rfl rfl) h0 v1 d1 p1 (hval 1 37 v1 rfl rfl) h1 v2 d2 p2 (hval 2 4 v2 rfl rfl) h2
  clear hA0 hval0
  refine hw.mono fun e W' ⟨he, bel⟩ => ?_
  subst he
  exact ⟨_, rfl, _, _, _, [], _, [], hW', trodAll_mk1 (shut_bool Try.underlying4 _), (trodAll_cons_mk (Below.trod vecTyped_laidOut (by kernel_rfl) (of_decide_eq_true (by kernel_rfl)) h0 bel lt0) (trodAll_cons_mk (Below.trod vecTyped_laidOut (by kernel_rfl) (of_decide_eq_true (by kernel_rfl)) h1 bel lt1) (trodAll_cons_mk (Below.trod vecTyped_laidOut (by kernel_rfl) (of_decide_eq_true (by kernel_rfl)) h2 bel lt2) trodAll_mk0))), rfl, Below.frame bel _, fun h => by cases h⟩

/-- The statement. -/
theorem vecTyped_holds : Rows.VecTypedSaid :=
  OpenClaim.holds_of_wide 4 Try.f4 rfl rfl rfl rfl rfl rfl rfl ⟨rfl, rfl, rfl, rfl, rfl⟩ rfl rfl rfl rfl rfl (by kernel_rfl) Try.func4 (by kernel_rfl)
    (of_decide_eq_true (by kernel_rfl)) (by unfold Func.isWrapper; first | (rw [if_pos (by decide +kernel)]; kernel_rfl) | (rw [if_neg (by decide +kernel)]; exact ⟨rfl, rfl⟩))
    (fun os started H enc _ => vecTyped_lifted os started H enc)
end Go.Proofs.Ytaoflhddcbmacaa
