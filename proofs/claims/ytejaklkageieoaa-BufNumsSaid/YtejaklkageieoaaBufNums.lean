/-
  BufNums: a number lies least significant byte first; Align pads to the next multiple.
-/
import Derived.Test.YtejaklkageieoaaRows
import Derived.Test.YtejaklkageieoaaBufOpen
import Derived.Test.YtejaklkageieoaaBufPlain
import Derived.ProofKit
import Derived.OpenShut
import Derived.ShutString
import Derived.ChangeOld
import Derived.Below
import Derived.Lib.SmallJoins
import Derived.Laws.Bits64b
namespace Go.Proofs.Ytejaklkageieoaa
open Go Go.ChangeShapes Go.WideShapes Go.ChangeAt Go.RowKit Go.Joins
open Go.ChangeMaps (open_string shut_string)
set_option linter.unusedVariables false
set_option linter.unusedSimpArgs false

theorem align_form (l : List UInt8) (x : Int) (hl : l.length ≤ 40) (hx : isW x = true) : ∃ pad : Nat, (pad : Int) < x ∧ alignS 1000 x (l, 0) = (l ++ zeros pad, 0) ∧ ((l.length : Int) + pad) % x = 0 := by
  have hp := padN_lt (l := l) hx
  have hx8 : x ≤ 8 := by rcases isW_cases hx with rfl | rfl | rfl | rfl <;> decide
  refine ⟨padN l x, hp.1, ?_, ?_⟩
  · unfold alignS
    rw [if_pos hx]
    exact put_fit _ _ _ (by rw [length_zeros]; show (l.length : Int) + (padN l x : Int) ≤ _; omega)
  · obtain ⟨_, hp2⟩ := hp
    rcases isW_cases hx with rfl | rfl | rfl | rfl <;> omega
theorem or_byte (q b : Nat) (hq : q * 256 ≤ 18446744073709551615) (hb : b < 256) : bits .or .u64 ((q : Int) * 256) (b : Int) = ((q * 256 + b : Nat) : Int) := by
  have e : ((q : Int) * 256) = ((q * 256 : Nat) : Int) := by simp
  rw [e, bits_or_u64_nat _ _ (by omega) (by omega)]
  have h := Nat.shiftLeft_add_eq_or_of_lt (show b < 2 ^ 8 by omega) q
  rw [Nat.shiftLeft_eq] at h
  exact congrArg _ h.symm
theorem fit_wrap (x U : Int) (hx : isW x = true) (h8 : x < 8) : fitU x U = decide (¬ IntKind.u64.wrap (2 ^ (8 * x).toNat) ≤ U) := by
  rcases isW_cases hx with rfl | rfl | rfl | rfl
  · rw [show IntKind.u64.wrap (2 ^ (8 * (1 : Int)).toNat) = 256 by kernel_rfl]; unfold fitU; rw [decide_eq_decide]; simp
  · rw [show IntKind.u64.wrap (2 ^ (8 * (2 : Int)).toNat) = 65536 by kernel_rfl]; unfold fitU; rw [decide_eq_decide]; simp
  · rw [show IntKind.u64.wrap (2 ^ (8 * (4 : Int)).toNat) = 4294967296 by kernel_rfl]; unfold fitU; rw [decide_eq_decide]; simp
  · omega
theorem horner (U m : Nat) : U / 256 ^ (m + 1) * 256 + U / 256 ^ m % 256 = U / 256 ^ m := by
  rw [Nat.pow_succ, ← Nat.div_div_eq_div_mul]; omega
set_option maxRecDepth 100000 in
set_option maxHeartbeats 8000000 in
theorem bufNums_any (u : Int) (st : ByteArray) (which : Int) (w : World) (h0 : 0 ≤ u) (h1 : u ≤ 18446744073709551615) (hs : st.size ≤ 9223372036854775807) :
    Calls Try.prog 7 #[.int .u64 u, .string st, .int .i64 which] w fun r w' => r = .returned (.bool true) ∧ Below w.heap.size w w' := by
  have h40 := short40_size st
  have hb40 := bytes40 st
  obtain ⟨U, rfl⟩ := Int.eq_ofNat_of_zero_le h0
  have hU : U ≤ 18446744073709551615 := by omega
  have m0 := Int.emod_nonneg which (show (4 : Int) ≠ 0 by decide)
  have m1 := Int.emod_lt_of_pos which (show (0 : Int) < 4 by decide)
  go_enter Try.func7, Try.ntmps7
  go_wp2_with fail
  refine (bring_any which 4 _ (by decide) (by decide)).mono ?_
  generalize which % 4 = j at *
  rintro r u0 ⟨rfl, rfl⟩
  go_wp2_with fail
  have hx0 : isW (wrap64 (2 ^ j.toNat)) = true := by
    have h4 : j = 0 ∨ j = 1 ∨ j = 2 ∨ j = 3 := by omega
    rcases h4 with rfl | rfl | rfl | rfl <;> (unfold isW wrap64; decide)
  generalize wrap64 (2 ^ j.toNat) = x at *
  have HX := Lib.hid hx0
  have hx8 : 1 ≤ x ∧ x ≤ 8 := by rcases isW_cases hx0 with rfl | rfl | rfl | rfl <;> decide
  obtain ⟨x1, x8⟩ := hx8
  clear hx0
  refine (newL (w0 := u0) 1000 (Below.refl _ _)).mono ?_
  rw [show roomOf 1000 = 1000 by kernel_rfl]
  rintro r u1 ⟨rfl, h, hg, hlt⟩
  have H := Lib.hid h
  clear h hg hlt
  generalize u0.heap.size = p at *
  go_wp2_with fail
  refine (short40_any st _ hs).mono ?_
  rintro r u2 ⟨rfl, rfl⟩
  go_wp2_with fail
  refine (textL1 (short40 st) _ (by simp) (by simp [sizeS]; omega) H.out).mono ?_
  rintro r u3 ⟨rfl, h⟩
  rw [put_fit _ _ _ (by simp; omega), List.nil_append] at h
  have H3 := Lib.hid h
  clear h H
  go_wp2_with fail
  refine (alignL x H3.out).mono ?_
  rintro r u4 ⟨rfl, h⟩
  have hal := align_form (bytesS [short40 st]) x hb40 HX.out
  obtain ⟨pad, hpad, hps, hpm⟩ := hal
  rw [hps] at h
  have hT : (bytesS [short40 st]).length = (short40 st).size := by rw [bytesS_length]; simp [sizeS]
  have hat : (bytesS [short40 st] ++ zeros pad).length = (short40 st).size + pad := by rw [List.length_append, length_zeros, hT]
  have hT1 : (short40 st).size ≤ (bytesS [short40 st] ++ zeros pad).length := by omega
  have hT2 : ((bytesS [short40 st] ++ zeros pad).length : Int) < ((short40 st).size : Int) + x := by omega
  have hT3 : (((bytesS [short40 st] ++ zeros pad).length : Nat) : Int).tmod x = 0 := by rw [Int.tmod_eq_emod_of_nonneg (by omega), hat, ← hT]; simpa using hpm
  have H4 := Lib.hid h
  clear h hps H3 hat hT hpm hpad
  generalize bytesS [short40 st] ++ zeros pad = xs at *
  clear hb40
  go_wp2_with fail
  refine (lenL H4.out).mono ?_
  rintro r u5 ⟨rfl, rfl⟩
  go_wp2_with fail
  refine (numL x (U : Int) h0 h1 H4.out).mono ?_
  rintro r u6 ⟨rfl, h⟩
  clear H4
  have hd1 : decide (xs.length < (short40 st).size) = false := by rw [decide_eq_false_iff_not]; omega
  have hx0 : ¬ (x = 0) := by omega
  by_cases hf : fitU x (U : Int) = true
  · have HF : Hid (numS 1000 x (U : Int) (xs, 0) = (xs ++ digB x.toNat U, 0)) := by
      show _ = _
      unfold numS
      rw [if_pos HX.out, if_pos hf]
      exact put_fit _ _ _ (by rw [length_digB]; omega)
    have HFIT := Lib.hid hf
    clear hf
    rw [HF.out] at h
    have H6 := Lib.hid h
    clear h
    go_wp2_with fail
    refine (bytesL H6.out).mono ?_
    rintro r u7 ⟨v1, rfl, hv1, _, hg1⟩
    have HL := Lib.hid (H6.out.grew hg1)
    have HV := Lib.hid hv1
    obtain ⟨a, c, rfl, hc, _, _⟩ := hv1
    have hlen : (outS (xs ++ digB x.toNat U, 0)).length = xs.length + x.toNat := by show (xs ++ digB x.toNat U).length = _; rw [List.length_append, length_digB]
    obtain ⟨L, hL⟩ : ∃ L : Nat, L = xs.length + x.toNat := ⟨_, rfl⟩
    rw [hlen, ← hL] at hc ⊢
    have HLL := Lib.hid hL
    have HC := Lib.hid hc
    clear hg1 hlen hL hc
    go_wp2_with fail
    refine (short40_any st _ hs).mono ?_
    rintro r u8 ⟨rfl, rfl⟩
    go_wp2_with fail
    refine (short40_any st _ hs).mono ?_
    rintro r u9 ⟨rfl, rfl⟩
    have hge3 : decide (((short40 st).size : Int) + x ≤ (xs.length : Int)) = false := by rw [decide_eq_false_iff_not]; omega
    have hLn : ((L : Int) != (xs.length : Int) + x) = false := by rw [HLL.out, bne_eq_false_iff_eq]; omega
    have hstart : 0 = U / 256 ^ x.toNat := by
      have := HFIT.out
      unfold fitU at this
      rw [decide_eq_true_iff] at this
      have e : (2 : Int) ^ (8 * x.toNat) = ((256 ^ x.toNat : Nat) : Int) := by rw [Int.pow_mul]; simp
      rw [e] at this
      exact (Nat.div_eq_of_lt (by omega)).symm
    have HST := Lib.hid hstart
    have hPP : x < 8 → decide (IntKind.u64.wrap (2 ^ (8 * x).toNat) ≤ (U : Int)) = false := fun h8 => by
      have := fit_wrap x (U : Int) HX.out h8
      rw [HFIT.out] at this
      simpa using this.symm
    have HPP := Lib.hid hPP
    clear hstart hPP
    by_cases hx7 : x < 8
    all_goals as_aux_lemma =>
      first | have hP := HPP.out hx7 | skip
      go_wp2_with fail
      go_loopw [12, 13] (fun t i wr => wr = u9 ∧ ∃ z : Int, i = .int .i64 z ∧ -1 ≤ z ∧ z < x ∧ ∃ q : Nat, t = .int .u64 q ∧ Hid (q = U / 256 ^ (z + 1).toNat)) (fun _ i _ => (intOf i + 1).toNat)
      case atStart => exact ⟨rfl, x - 1, rfl, by omega, by omega, 0, rfl, by show 0 = U / 256 ^ (x - 1 + 1).toNat; rw [show x - 1 + 1 = x by omega]; exact HST.out⟩
      case round =>
        obtain ⟨rfl, z, rfl, hz1, hz2, q, rfl, HQ⟩ := hrel
        clear hge3 hLn
        by_cases hz : 0 ≤ z
        · obtain ⟨m, rfl⟩ := Int.eq_ofNat_of_zero_le hz
          have hm : m < x.toNat := by omega
          have hidx : xs.length + m < L := by rw [HLL.out]; omega
          have hget : (outS (xs ++ digB x.toNat U, 0))[xs.length + m]? = some (UInt8.ofNat (U / 256 ^ m % 256)) := by
            show (xs ++ digB x.toNat U)[xs.length + m]? = _
            rw [List.getElem?_append_right (by omega), show xs.length + m - xs.length = m by omega]
            unfold digB
            rw [List.getElem?_map, List.getElem?_range hm]
            rfl
          obtain ⟨a', c', e1, _, _, hcell⟩ := HV.out
          injection e1 with e1 _ _
          subst e1
          obtain ⟨bl, off, rfl, hc0⟩ := hcell _ _ hget
          have hb8 : ((UInt8.ofNat (U / 256 ^ m % 256)).toNat : Int) = ((U / 256 ^ m % 256 : Nat) : Int) := by rw [UInt8.toNat_ofNat']; omega
          rw [hb8] at hc0
          have hq2 : q = U / 256 ^ (m + 1) := by rw [HQ.out]; congr 2
          have hho := horner U m
          have hdl : U / 256 ^ m ≤ U := Nat.div_le_self _ _
          rw [← hq2] at hho
          have hbb : U / 256 ^ m % 256 < 256 := Nat.mod_lt _ (by omega)
          have HN : Hid (q * 256 + U / 256 ^ m % 256 = U / 256 ^ m) := hho
          have hq3 : q * 256 ≤ 18446744073709551615 := by omega
          clear hcell hget hb8 hq2 hho hdl HQ
          generalize hgb : U / 256 ^ m % 256 = bb at *
          clear hgb
          have hor := or_byte q bb hq3 hbb
          go_wp2_with fail
          go_roundw
          case rel => exact ⟨trivial, (m : Int) - 1, rfl, by omega, by omega, q * 256 + bb, by first | rfl | rw [hor], by show _ = U / 256 ^ ((m : Int) - 1 + 1).toNat; rw [HN.out, show ((m : Int) - 1 + 1).toNat = m by omega]⟩
          case measure => simp [intOf]
        · obtain rfl : z = -1 := by omega
          obtain rfl : q = U := by rw [HQ.out]; simp
          go_wp2_with fail
          refine (works_any _).mono ?_
          rintro r u11 ⟨rfl, hb⟩
          have HB := Lib.hid hb
          clear hb
          go_wp2
          go_ret
          exact ⟨rfl, Below.trans HL.out.below (Below.mono HB.out HL.out.below.size)⟩
  · as_aux_lemma =>
    have HF : Hid (numS 1000 x (U : Int) (xs, 0) = (xs, 10)) := by show _ = _; unfold numS; rw [if_pos HX.out, if_neg hf]; rfl
    have hx7 : x < 8 := by
      rcases isW_cases HX.out with rfl | rfl | rfl | rfl
      · decide
      · decide
      · decide
      · exact absurd (by unfold fitU; simp; omega) hf
    have hP : decide (IntKind.u64.wrap (2 ^ (8 * x).toNat) ≤ (U : Int)) = true := by
      have := fit_wrap x (U : Int) HX.out hx7
      rw [show fitU x (U : Int) = false by simpa using hf] at this
      simpa using this.symm
    clear hf
    rw [HF.out] at h
    have H6 := Lib.hid h
    clear h
    go_wp2_with fail
    refine (bytesL H6.out).mono ?_
    rintro r u7 ⟨v1, rfl, hv1, _, hg1⟩
    have HL := Lib.hid (H6.out.grew hg1)
    clear hv1 hg1
    go_wp2_with fail
    refine (short40_any st _ hs).mono ?_
    rintro r u8 ⟨rfl, rfl⟩
    go_wp2_with fail
    refine (short40_any st _ hs).mono ?_
    rintro r u9 ⟨rfl, rfl⟩
    have hge3 : decide (((short40 st).size : Int) + x ≤ (xs.length : Int)) = false := by rw [decide_eq_false_iff_not]; omega
    go_wp2_with fail
    refine (lenL HL.out).mono ?_
    rintro r u10 ⟨rfl, rfl⟩
    go_wp2_with fail
    refine (works_any _).mono ?_
    rintro r u11 ⟨rfl, hb⟩
    have HB := Lib.hid hb
    clear hb
    go_wp2
    go_ret
    exact ⟨rfl, Below.trans HL.out.below (Below.mono HB.out HL.out.below.size)⟩


theorem bufNums_row {H : Type} (enc : TypeId × Value → H) (W : World) (base : Nat) (v0 : Value) (d0 : DataW H) (p0 : List MemPlace) (o0 : Value.okWide Try.prog W .any base 28 v0) (k0 : DataW.Trod enc Try.prog W 0 (fun _ => true) true 28 v0 d0 p0) (v1 : Value) (d1 : DataW H) (p1 : List MemPlace) (o1 : Value.okWide Try.prog W .any base 9 v1) (k1 : DataW.Trod enc Try.prog W 0 (fun _ => true) true 9 v1 d1 p1) (v2 : Value) (d2 : DataW H) (p2 : List MemPlace) (o2 : Value.okWide Try.prog W .any base 3 v2) (k2 : DataW.Trod enc Try.prog W 0 (fun _ => true) true 3 v2 d2 p2) :
    Calls Try.prog 7 #[v0, v1, v2] W fun e w' => e = .returned (.bool true) ∧ Below W.heap.size W w' := by
  obtain ⟨u, rfl, _, _, hu⟩ := open_int Try.underlying28 o0 k0
  obtain ⟨st, rfl, _, _, hst⟩ := open_string Try.underlying9 o1 k1
  obtain ⟨m, rfl, _, _, _⟩ := open_int Try.underlying3 o2 k2
  exact bufNums_any u st m W (bounds_u64 hu).1 (bounds_u64 hu).2 (by unfold maxLen at hst; exact hst)

theorem bufNums_own : ownKnob Try.prog.godebug = none := by kernel_rfl
theorem bufNums_laidOut : laidOutB Try.prog = true := by kernel_rfl

set_option maxRecDepth 100000 in
theorem bufNums_lifted (os : Os) (started : os.Started) (H : Type) (enc : TypeId × Value → H) :
    ReturnsInHanded {} Try.checked os 7 .any (Rows.bufNumsSpec.pre6 enc Try.prog Try.f7 Rows.bufNumsRow.domain false) (Rows.bufNumsSpec.post enc Try.prog Try.f7 false true false false) := by
  refine returnsInHanded_of_change (C := Try.checked) bufNums_own started (by kernel_rfl) Try.func7
    (ChangeSpec.witness6 (enc := enc) (C := Try.checked) false ⟨#[], #[.int .u64 0, .string ⟨#[]⟩, .int .i64 0], []⟩ 8 (by kernel_rfl) (by kernel_rfl) (by kernel_rfl) (by kernel_rfl)) ?_
  intro W base args ds gs before hval0 hW hcnd _
  have hval : ∀ (j : Nat) t v, Try.f7.params[j]? = some t → args[j]? = some v → Value.okWide Try.prog W .any base t v := hval0
  have hW' := hW
  obtain ⟨p, q, hA0, hV, rfl, hfz, hnd⟩ := hW
  have hA : DataW.TrodAll enc Try.prog W 0 (fun _ => true) true Try.f7.params.toList args.toList ds p := hA0
  rw [Try.params7] at hA hval
  obtain ⟨v0, vs0, d0, ds0, p0, q0, hargs, rfl, rfl, h0, r0⟩ := trodAll_cons hA
  obtain ⟨v1, vs1, d1, ds1, p1, q1, rfl, rfl, rfl, h1, r1⟩ := trodAll_cons r0
  obtain ⟨v2, vs2, d2, ds2, p2, q2, rfl, rfl, rfl, h2, r2⟩ := trodAll_cons r1
  obtain ⟨rfl, rfl, rfl⟩ := trodAll_nil r2
  obtain rfl : args = #[v0, v1, v2] := by cases args; simp_all
  obtain ⟨rfl, rfl⟩ := trodVars_none hV
  have lt0 : ∀ x ∈ p0, x.block < W.heap.size := by obtain ⟨m, hm⟩ := h0; exact DataW.trod_lt m _ _ _ hm
  have lt1 : ∀ x ∈ p1, x.block < W.heap.size := by obtain ⟨m, hm⟩ := h1; exact DataW.trod_lt m _ _ _ hm
  have lt2 : ∀ x ∈ p2, x.block < W.heap.size := by obtain ⟨m, hm⟩ := h2; exact DataW.trod_lt m _ _ _ hm
  have hw := bufNums_row enc W base v0 d0 p0 (hval 0 28 v0 rfl rfl) h0 v1 d1 p1 (hval 1 9 v1 rfl rfl) h1 v2 d2 p2 (hval 2 3 v2 rfl rfl) h2
  clear hA0 hval0
  refine hw.mono fun e W' ⟨he, bel⟩ => ?_
  subst he
  exact ⟨_, rfl, _, _, _, [], _, [], hW', trodAll_mk1 (shut_bool Try.underlying4 _), (trodAll_cons_mk (Below.trod bufNums_laidOut (by kernel_rfl) (of_decide_eq_true (by kernel_rfl)) h0 bel lt0) (trodAll_cons_mk (Below.trod bufNums_laidOut (by kernel_rfl) (of_decide_eq_true (by kernel_rfl)) h1 bel lt1) (trodAll_cons_mk (Below.trod bufNums_laidOut (by kernel_rfl) (of_decide_eq_true (by kernel_rfl)) h2 bel lt2) trodAll_mk0))), rfl, Below.frame bel _, fun h => by cases h⟩

/-- The statement. -/
theorem bufNums_holds : Rows.BufNumsSaid :=
  OpenClaim.holds_of_wide 7 Try.f7 rfl rfl rfl rfl rfl rfl rfl ⟨rfl, rfl, rfl, rfl, rfl⟩ rfl rfl rfl rfl rfl (by kernel_rfl) Try.func7 (by kernel_rfl)
    (of_decide_eq_true (by kernel_rfl)) (by unfold Func.isWrapper; first | (rw [if_pos (by decide +kernel)]; kernel_rfl) | (rw [if_neg (by decide +kernel)]; exact ⟨rfl, rfl⟩))
    (fun os started H enc _ => bufNums_lifted os started H enc)
end Go.Proofs.Ytejaklkageieoaa
