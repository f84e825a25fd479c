/-
  MapsLeast: at half of the width a number, the length or an offset does not fit. Conditions: none beyond the statement's own.
-/
import Derived.Test.YtajpbclcfjljnaaPE
import Derived.Deep.QuietTactic
import Derived.BigQuiet
import Derived.Deep.DeepCutAuto
namespace Go.Proofs.Ytajpbclcfjljnaa
open Go Go.ChangeShapes Go.WideShapes Go.ChangeAt Go.RowKit Go.Joins Go.Deep
open Go.Proofs.Ytajpbclcfjljnaa.Ft (V3 vV okV ValsAt inlineB legalB packF codeF typedF allF)
set_option linter.unusedVariables false
set_option linter.unusedSimpArgs false

set_option maxRecDepth 100000 in
set_option maxHeartbeats 4000000 in
theorem mapsLeast_any (a at_ : Int) (lv : Value) (l : List (Int × Int)) (W : World) (hp : PairsAt W lv l) (hlen : l.length ≤ 9223372036854775807) :
    Calls Try.prog 4 #[.int .i64 a, .int .i64 at_, lv] W fun r w' => r = .returned (.bool true) ∧ Below W.heap.size W w' := by
  have HP := Lib.hid hp
  obtain ⟨la, lc, rfl, hcell⟩ := hp
  clear hcell
  go_enter Try.func4, Try.ntmps4
  go_wp2_with fail
  refine (bringL_any a 70000 _ (by omega) (by omega)).mono ?_
  rintro r w1 ⟨rfl, rfl⟩
  obtain ⟨m, hm⟩ : ∃ m : Nat, a % 70000 = m := ⟨(a % 70000).toNat, by omega⟩
  rw [hm]
  have hm2 : m < 70000 := by omega
  clear hm
  go_wp2_with fail
  obtain ⟨n, hn⟩ : ∃ n : Nat, 1 + (m : Int) = n := ⟨m + 1, by omega⟩
  rw [hn]
  have hn1 : 1 ≤ n := by omega
  have hn2 : n ≤ 70000 := by omega
  clear hn hm2
  refine (values18_any n _ l _ HP.out (by omega) (by omega) hlen).mono ?_
  rintro r w2 ⟨vv, rfl, hown, hg⟩
  have HO := Lib.hid hown
  have HG2 := Lib.hid hg
  obtain ⟨va, vc, rfl, hvc⟩ := own_form hown
  have HNR : Hid (∀ v ∈ valsM l n, Near n v) := near_valsM l n (by omega) (by omega)
  have hl3 : (valsM l n).length ≤ 300 := by rw [valsM_length]; omega
  generalize valsM l n = L at *
  have HNIL : Hid (∀ c, Value.slice va L.length vc = .slice none 0 c → c = 0) := fun c e => by
    injection e with e1 e2 e3
    rw [← e3]
    exact hvc e1
  clear hown hg hvc
  go_wp2_with fail
  refine (bringL_any at_ n _ (by omega) (by omega)).mono ?_
  rintro r w' ⟨rfl, e⟩
  rw [e]
  clear e w'
  obtain ⟨kn, hkn⟩ : ∃ kn : Nat, at_ % n = kn := ⟨(at_ % n).toNat, by have := Int.emod_nonneg at_ (show (n : Int) ≠ 0 by omega); omega⟩
  rw [hkn]
  have hkn1 : kn < n := by have := Int.emod_lt_of_pos at_ (show (0 : Int) < n by omega); omega
  clear hkn
  go_wp2_with fail
  refine (filled18_any 1048576 n _ (by omega)).mono ?_
  rintro r w3 ⟨rfl, hl⟩
  rw [roomOf_big, filled_big n (by omega)] at hl
  have HL := Lib.hid hl
  clear hl
  go_wp2_with fail
  refine (keys18_any (kn : Int) 1 _).mono ?_
  rintro r w3b ⟨rfl, hgk⟩
  replace HL := Lib.hid (HL.out.grew hgk)
  clear hgk
  have HKA : Hid (KeyAt n (14, 1, (kn : Int))) := ⟨rfl, show isW 1 = true by decide, by show (0 : Int) ≤ kn; omega, by show (kn : Int) ≤ n; omega⟩
  go_wp2_with fail
  obtain ⟨o, hb, hbel, h3, h4⟩ := HL.out
  refine (put_map (zeros n, 0) (14, 1, (kn : Int)) _ L hb hbel.size h3 h4 ((HO.out.vals).grew hbel) HNIL.out (by omega) (okV_vals HNR.out) ⟨by show (0 : Int) ≤ kn; omega, by show (kn : Int) ≤ _; omega⟩ ?_ rfl).mono ?_
  · intro ad n' c' e
    have hlt := own_lt HO.out e
    exact ⟨Nat.lt_of_lt_of_le hlt hbel.size, fun hq => by have := hb.ge _ hq; omega⟩
  rintro r w4 ⟨rfl, ht⟩
  have hzl : (zeros n).length = n := length_zeros n
  have HGR : Hid (Grew w2 w4) := by
    obtain ⟨o', _, _, hm⟩ := ht
    exact Below.trans hbel (hm.below hbel.size (fun k hk => hb.ge k hk))
  clear ht hb hbel h3 h4 HL
  obtain ⟨x, hx⟩ : ∃ x, allF L (14, 1, (kn : Int)) n 3 = x := ⟨_, rfl⟩
  obtain ⟨_, _, hw, _⟩ := allF_map (n := n) (by omega) (by omega) (by omega) HNR.out HKA.out
  rw [hx] at hw
  have hq := putM_ok (most := 1048576) (k := (14, 1, (kn : Int))) (b := zeros n) (l := L) (x := x) (by omega) (by omega) (by rw [hzl]; exact HNR.out) (by rw [hzl]; exact HKA.out) (by rw [hzl]; exact hx) (by have := lenM_le hw (zeros n) L; omega)
  rw [hq]
  have hpad := padN_lt (l := zeros n) hw
  have hxp := isW_pos hw
  obtain ⟨p, hpp⟩ : ∃ p : Int, ((zeros n).length : Int) + padN (zeros n) x + 3 * x = p := ⟨_, rfl⟩
  rw [hpp]
  have hp0 : 0 ≤ p := by rw [← hpp, hzl]; omega
  have hp1 : p ≤ 1048576 := by rw [← hpp, hzl]; omega
  rw [show putV ((9, x, p), 0) = .tuple #[.agg #[.int .i64 9, .int .i64 x, .int .u64 p], .int .i64 0] from rfl]
  have HTI : Hid (∀ h : Int, x = 2 * h → 1 ≤ h → (2 : Int) ^ (8 * h.toNat) ≤ L.length ∨ (2 : Int) ^ (8 * h.toNat) ≤ (n + h - 1) / h * h - kn ∨ ∃ (i : Nat) (v : V3), L[i]? = some v ∧ tightAtM h ((n + h - 1) / h * h) i v) := fun h e1 e2 => half_tightM (by omega) (by omega) (by omega) HNR.out HKA.out hx e1 e2
  have HV4 : Hid (ValsAt w4 (.slice va L.length vc) L) := (HO.out.vals).grew HGR.out
  have HGW : Hid (Grew w1 w4) := HG2.out.trans HGR.out
  have HW := Lib.hid hw
  clear hq hpp hpad hx hzl HO HG2 HGR HKA HNIL
  rcases isW_cases hw with rfl | rfl | rfl | rfl
  · clear hw hxp HTI HV4 HNR
    go_wp2_with fail
    refine (works18_any _).mono ?_
    rintro r w5 ⟨rfl, hg5⟩
    have HG5 : Hid (Grew w1 w5) := HGW.out.trans (((Grew.refl w4).alloc _).trans hg5)
    clear hg5
    go_wp2
    go_ret
    exact ⟨rfl, HG5.out⟩
  · clear hw hxp
    have HT2 := Lib.hid (HTI.out 1 (by decide) (by decide))
    clear HTI
    rw [show ((n : Int) + 1 - 1) / 1 * 1 = (n : Int) by omega] at HT2
    obtain ⟨bg, hbg⟩ : ∃ bg : Int, (n : Int) = bg := ⟨_, rfl⟩
    rw [hbg] at HT2
    have hbg0 : 0 ≤ bg := by omega
    have hbg1 : bg ≤ 200000 := by omega
    have HBG := Lib.hid hbg
    clear hbg
    by_cases hT0 : (256 : Int) ≤ L.length
    · go_wp2_with fail
      go_loopw [14, 15] (fun t i wr => ∃ J : Int, (0 ≤ J ∧ J ≤ L.length) ∧ i = .int .i64 J ∧ ∃ tb : Bool, t = .bool tb ∧ Hid (tightToM 1 bg ((256 : Int) ≤ L.length ∨ (256 : Int) ≤ bg - kn) L J.toNat tb ∧ Grew w4 wr)) (fun _ i _ => L.length - (intOf i).toNat)
      case atStart =>
        refine ⟨0, ⟨by omega, by omega⟩, rfl, _, rfl, ?_⟩
        show _ ∧ _
        exact ⟨tightToM.zero _ _ _ _ _ ⟨fun _ => .inl hT0, fun _ => rfl⟩, (Grew.refl w4).alloc _⟩
      case round =>
        obtain ⟨J, ⟨hJ0, hJ1⟩, rfl, tb, rfl, HK⟩ := hrel
        by_cases hlt : J < L.length
        · obtain ⟨k, hk⟩ : ∃ k : Nat, J.toNat = k := ⟨_, rfl⟩
          have hkl : k < L.length := by omega
          obtain ⟨v, hv⟩ : ∃ v, L[k]? = some v := ⟨_, List.getElem?_eq_getElem hkl⟩
          have HS := Lib.hid (fun nb hnb => (by rw [hk] at HK; exact HK.out.1 : tightToM 1 bg ((256 : Int) ≤ L.length ∨ (256 : Int) ≤ bg - kn) L k tb).step hv nb hnb)
          have hnr := HNR.out v (List.mem_of_getElem? hv)
          have HI : Hid (inlineB v.1 = false → v.2.2 ≤ n) := hnr.2.2.2
          obtain ⟨u0, u1⟩ := hnr.2.1
          obtain ⟨va', vc', ev, hc⟩ := HV4.out
          cases ev
          obtain ⟨b, off, rfl, d0, d1, d2⟩ := hc k v hv
          rw [← hk] at d0 d1 d2
          replace d0 := HK.out.2.cell d0
          replace d1 := HK.out.2.cell d1
          replace d2 := HK.out.2.cell d2
          obtain ⟨ty, wd, vn⟩ := v
          simp only at d0 d1 d2 u0 u1 HI
          have HKJ := Lib.hid hk
          clear hc hnr hv hk hkl
          go_wp2_with fail
          refine (Ft.inline_any ty _).mono ?_
          rintro r w5 ⟨rfl, hg5⟩
          replace d0 := hg5.cell d0
          replace d1 := hg5.cell d1
          replace d2 := hg5.cell d2
          have HG5 := Lib.hid (HK.out.2.trans hg5)
          clear hg5 d0
          have HJK : Hid ((J + 1).toNat = k + 1) := by show _ = _; have := HKJ.out; omega
          have HJI : Hid ((k : Int) = J) := by show _ = _; have := HKJ.out; omega
          cases hi : inlineB ty with
          | true =>
            cases tb with
            | true =>
              go_wp2
              go_roundw
              case rel =>
                refine ⟨J + 1, ⟨by omega, by omega⟩, rfl, _, rfl, ?_⟩
                show _ ∧ _
                rw [HJK.out]
                exact ⟨HS.out (decide (1 < wd)) (by rw [decide_eq_true_eq]; exact ⟨fun h => .inl ⟨hi, h⟩, fun h => by rcases h with h | h; exact h.2; rw [show inlineB ty = false from h.1] at hi; cases hi⟩), HG5.out⟩
              case measure => simp [intOf]; omega
            | false =>
              go_wp2
              go_roundw
              case rel =>
                refine ⟨J + 1, ⟨by omega, by omega⟩, rfl, _, rfl, ?_⟩
                show _ ∧ _
                rw [HJK.out]
                exact ⟨HS.out (decide (1 < wd)) (by rw [decide_eq_true_eq]; exact ⟨fun h => .inl ⟨hi, h⟩, fun h => by rcases h with h | h; exact h.2; rw [show inlineB ty = false from h.1] at hi; cases hi⟩), HG5.out⟩
              case measure => simp [intOf]; omega
          | false =>
            have hvn := HI.out hi
            cases tb with
            | true =>
              go_wp2_with fail
              go_quiet (fail)
              go_wp2
              go_roundw
              case rel =>
                refine ⟨J + 1, ⟨by omega, by omega⟩, rfl, _, rfl, ?_⟩
                show _ ∧ _
                rw [HJK.out]
                try rw [HBG.out]
                exact ⟨HS.out (decide ((256 : Int) ≤ bg + (J + 3) * 1 - vn)) (tightM_far hi _ (by decide) _ (by rw [HJI.out])), HG5.out.drewN _⟩
              case measure => simp [intOf]; omega
            | false =>
              go_wp2_with fail
              go_quiet (fail)
              go_wp2
              go_roundw
              case rel =>
                refine ⟨J + 1, ⟨by omega, by omega⟩, rfl, _, rfl, ?_⟩
                show _ ∧ _
                rw [HJK.out]
                try rw [HBG.out]
                exact ⟨HS.out (decide ((256 : Int) ≤ bg + (J + 3) - vn)) (tightM_far hi _ (by decide) _ (by rw [HJI.out]; omega)), HG5.out.drewN _⟩
              case measure => simp [intOf]; omega
        · have ek : J.toNat = L.length := by omega
          have htb : tb = true := by
            have h := HK.out.1
            rw [ek] at h
            refine h.2 ?_
            rcases HT2.out with h | h | ⟨i, v, h1, h2⟩
            · exact .inl (.inl h)
            · exact .inl (.inr h)
            · exact .inr ⟨i, (List.getElem?_eq_some_iff.1 h1).1, v, h1, h2⟩
          subst htb
          have HG6 : Hid (Grew w1 wr) := HGW.out.trans HK.out.2
          clear HK HT2 ek
          go_wp2_with fail
          refine (works18_any _).mono ?_
          rintro r w5 ⟨rfl, hg5⟩
          have HG5 : Hid (Grew w1 w5) := HG6.out.trans hg5
          clear hg5
          go_wp2
          go_ret
          exact ⟨rfl, HG5.out⟩
    · go_wp2_with fail
      go_loopw [14, 15] (fun t i wr => ∃ J : Int, (0 ≤ J ∧ J ≤ L.length) ∧ i = .int .i64 J ∧ ∃ tb : Bool, t = .bool tb ∧ Hid (tightToM 1 bg ((256 : Int) ≤ L.length ∨ (256 : Int) ≤ bg - kn) L J.toNat tb ∧ Grew w4 wr)) (fun _ i _ => L.length - (intOf i).toNat)
      case atStart =>
        refine ⟨0, ⟨by omega, by omega⟩, rfl, _, rfl, ?_⟩
        show _ ∧ _
        exact ⟨tightToM.zero _ _ _ _ _ (by rw [HBG.out, Bool.or_eq_true, decide_eq_true_eq, decide_eq_true_eq]), (Grew.refl w4).alloc _⟩
      case round =>
        obtain ⟨J, ⟨hJ0, hJ1⟩, rfl, tb, rfl, HK⟩ := hrel
        by_cases hlt : J < L.length
        · obtain ⟨k, hk⟩ : ∃ k : Nat, J.toNat = k := ⟨_, rfl⟩
          have hkl : k < L.length := by omega
          obtain ⟨v, hv⟩ : ∃ v, L[k]? = some v := ⟨_, List.getElem?_eq_getElem hkl⟩
          have HS := Lib.hid (fun nb hnb => (by rw [hk] at HK; exact HK.out.1 : tightToM 1 bg ((256 : Int) ≤ L.length ∨ (256 : Int) ≤ bg - kn) L k tb).step hv nb hnb)
          have hnr := HNR.out v (List.mem_of_getElem? hv)
          have HI : Hid (inlineB v.1 = false → v.2.2 ≤ n) := hnr.2.2.2
          obtain ⟨u0, u1⟩ := hnr.2.1
          obtain ⟨va', vc', ev, hc⟩ := HV4.out
          cases ev
          obtain ⟨b, off, rfl, d0, d1, d2⟩ := hc k v hv
          rw [← hk] at d0 d1 d2
          replace d0 := HK.out.2.cell d0
          replace d1 := HK.out.2.cell d1
          replace d2 := HK.out.2.cell d2
          obtain ⟨ty, wd, vn⟩ := v
          simp only at d0 d1 d2 u0 u1 HI
          have HKJ := Lib.hid hk
          clear hc hnr hv hk hkl
          go_wp2_with fail
          refine (Ft.inline_any ty _).mono ?_
          rintro r w5 ⟨rfl, hg5⟩
          replace d0 := hg5.cell d0
          replace d1 := hg5.cell d1
          replace d2 := hg5.cell d2
          have HG5 := Lib.hid (HK.out.2.trans hg5)
          clear hg5 d0
          have HJK : Hid ((J + 1).toNat = k + 1) := by show _ = _; have := HKJ.out; omega
          have HJI : Hid ((k : Int) = J) := by show _ = _; have := HKJ.out; omega
          cases hi : inlineB ty with
          | true =>
            cases tb with
            | true =>
              go_wp2
              go_roundw
              case rel =>
                refine ⟨J + 1, ⟨by omega, by omega⟩, rfl, _, rfl, ?_⟩
                show _ ∧ _
                rw [HJK.out]
                exact ⟨HS.out (decide (1 < wd)) (by rw [decide_eq_true_eq]; exact ⟨fun h => .inl ⟨hi, h⟩, fun h => by rcases h with h | h; exact h.2; rw [show inlineB ty = false from h.1] at hi; cases hi⟩), HG5.out⟩
              case measure => simp [intOf]; omega
            | false =>
              go_wp2
              go_roundw
              case rel =>
                refine ⟨J + 1, ⟨by omega, by omega⟩, rfl, _, rfl, ?_⟩
                show _ ∧ _
                rw [HJK.out]
                exact ⟨HS.out (decide (1 < wd)) (by rw [decide_eq_true_eq]; exact ⟨fun h => .inl ⟨hi, h⟩, fun h => by rcases h with h | h; exact h.2; rw [show inlineB ty = false from h.1] at hi; cases hi⟩), HG5.out⟩
              case measure => simp [intOf]; omega
          | false =>
            have hvn := HI.out hi
            cases tb with
            | true =>
              go_wp2_with fail
              go_quiet (fail)
              go_wp2
              go_roundw
              case rel =>
                refine ⟨J + 1, ⟨by omega, by omega⟩, rfl, _, rfl, ?_⟩
                show _ ∧ _
                rw [HJK.out]
                try rw [HBG.out]
                exact ⟨HS.out (decide ((256 : Int) ≤ bg + (J + 3) * 1 - vn)) (tightM_far hi _ (by decide) _ (by rw [HJI.out])), HG5.out.drewN _⟩
              case measure => simp [intOf]; omega
            | false =>
              go_wp2_with fail
              go_quiet (fail)
              go_wp2
              go_roundw
              case rel =>
                refine ⟨J + 1, ⟨by omega, by omega⟩, rfl, _, rfl, ?_⟩
                show _ ∧ _
                rw [HJK.out]
                try rw [HBG.out]
                exact ⟨HS.out (decide ((256 : Int) ≤ bg + (J + 3) - vn)) (tightM_far hi _ (by decide) _ (by rw [HJI.out]; omega)), HG5.out.drewN _⟩
              case measure => simp [intOf]; omega
        · have ek : J.toNat = L.length := by omega
          have htb : tb = true := by
            have h := HK.out.1
            rw [ek] at h
            refine h.2 ?_
            rcases HT2.out with h | h | ⟨i, v, h1, h2⟩
            · exact .inl (.inl h)
            · exact .inl (.inr h)
            · exact .inr ⟨i, (List.getElem?_eq_some_iff.1 h1).1, v, h1, h2⟩
          subst htb
          have HG6 : Hid (Grew w1 wr) := HGW.out.trans HK.out.2
          clear HK HT2 ek
          go_wp2_with fail
          refine (works18_any _).mono ?_
          rintro r w5 ⟨rfl, hg5⟩
          have HG5 : Hid (Grew w1 w5) := HG6.out.trans hg5
          clear hg5
          go_wp2
          go_ret
          exact ⟨rfl, HG5.out⟩
  · clear hw hxp
    have HT2 := Lib.hid (HTI.out 2 (by decide) (by decide))
    clear HTI
    obtain ⟨bg, hbg⟩ : ∃ bg : Int, ((n : Int) + 2 - 1) / 2 * 2 = bg := ⟨_, rfl⟩
    rw [hbg] at HT2
    have hbg0 : 0 ≤ bg := by omega
    have hbg1 : bg ≤ 200000 := by omega
    have HBG := Lib.hid hbg
    clear hbg
    by_cases hT0 : (65536 : Int) ≤ L.length
    · exfalso; omega
    · go_wp2_with fail
      go_loopw [14, 15] (fun t i wr => ∃ J : Int, (0 ≤ J ∧ J ≤ L.length) ∧ i = .int .i64 J ∧ ∃ tb : Bool, t = .bool tb ∧ Hid (tightToM 2 bg ((65536 : Int) ≤ L.length ∨ (65536 : Int) ≤ bg - kn) L J.toNat tb ∧ Grew w4 wr)) (fun _ i _ => L.length - (intOf i).toNat)
      case atStart =>
        refine ⟨0, ⟨by omega, by omega⟩, rfl, _, rfl, ?_⟩
        show _ ∧ _
        exact ⟨tightToM.zero _ _ _ _ _ (by rw [HBG.out, Bool.or_eq_true, decide_eq_true_eq, decide_eq_true_eq]), (Grew.refl w4).alloc _⟩
      case round =>
        obtain ⟨J, ⟨hJ0, hJ1⟩, rfl, tb, rfl, HK⟩ := hrel
        by_cases hlt : J < L.length
        · obtain ⟨k, hk⟩ : ∃ k : Nat, J.toNat = k := ⟨_, rfl⟩
          have hkl : k < L.length := by omega
          obtain ⟨v, hv⟩ : ∃ v, L[k]? = some v := ⟨_, List.getElem?_eq_getElem hkl⟩
          have HS := Lib.hid (fun nb hnb => (by rw [hk] at HK; exact HK.out.1 : tightToM 2 bg ((65536 : Int) ≤ L.length ∨ (65536 : Int) ≤ bg - kn) L k tb).step hv nb hnb)
          have hnr := HNR.out v (List.mem_of_getElem? hv)
          have HI : Hid (inlineB v.1 = false → v.2.2 ≤ n) := hnr.2.2.2
          obtain ⟨u0, u1⟩ := hnr.2.1
          obtain ⟨va', vc', ev, hc⟩ := HV4.out
          cases ev
          obtain ⟨b, off, rfl, d0, d1, d2⟩ := hc k v hv
          rw [← hk] at d0 d1 d2
          replace d0 := HK.out.2.cell d0
          replace d1 := HK.out.2.cell d1
          replace d2 := HK.out.2.cell d2
          obtain ⟨ty, wd, vn⟩ := v
          simp only at d0 d1 d2 u0 u1 HI
          have HKJ := Lib.hid hk
          clear hc hnr hv hk hkl
          go_wp2_with fail
          refine (Ft.inline_any ty _).mono ?_
          rintro r w5 ⟨rfl, hg5⟩
          replace d0 := hg5.cell d0
          replace d1 := hg5.cell d1
          replace d2 := hg5.cell d2
          have HG5 := Lib.hid (HK.out.2.trans hg5)
          clear hg5 d0
          have HJK : Hid ((J + 1).toNat = k + 1) := by show _ = _; have := HKJ.out; omega
          have HJI : Hid ((k : Int) = J) := by show _ = _; have := HKJ.out; omega
          cases hi : inlineB ty with
          | true =>
            cases tb with
            | true =>
              go_wp2
              go_roundw
              case rel =>
                refine ⟨J + 1, ⟨by omega, by omega⟩, rfl, _, rfl, ?_⟩
                show _ ∧ _
                rw [HJK.out]
                exact ⟨HS.out (decide (2 < wd)) (by rw [decide_eq_true_eq]; exact ⟨fun h => .inl ⟨hi, h⟩, fun h => by rcases h with h | h; exact h.2; rw [show inlineB ty = false from h.1] at hi; cases hi⟩), HG5.out⟩
              case measure => simp [intOf]; omega
            | false =>
              go_wp2
              go_roundw
              case rel =>
                refine ⟨J + 1, ⟨by omega, by omega⟩, rfl, _, rfl, ?_⟩
                show _ ∧ _
                rw [HJK.out]
                exact ⟨HS.out (decide (2 < wd)) (by rw [decide_eq_true_eq]; exact ⟨fun h => .inl ⟨hi, h⟩, fun h => by rcases h with h | h; exact h.2; rw [show inlineB ty = false from h.1] at hi; cases hi⟩), HG5.out⟩
              case measure => simp [intOf]; omega
          | false =>
            have hvn := HI.out hi
            cases tb with
            | true =>
              go_wp2_with fail
              go_quiet (fail)
              go_wp2
              go_roundw
              case rel =>
                refine ⟨J + 1, ⟨by omega, by omega⟩, rfl, _, rfl, ?_⟩
                show _ ∧ _
                rw [HJK.out]
                try rw [HBG.out]
                exact ⟨HS.out (decide ((65536 : Int) ≤ bg + (J + 3) * 2 - vn)) (tightM_far hi _ (by decide) _ (by rw [HJI.out])), HG5.out.drewN _⟩
              case measure => simp [intOf]; omega
            | false =>
              go_wp2_with fail
              go_quiet (fail)
              go_wp2
              go_roundw
              case rel =>
                refine ⟨J + 1, ⟨by omega, by omega⟩, rfl, _, rfl, ?_⟩
                show _ ∧ _
                rw [HJK.out]
                try rw [HBG.out]
                exact ⟨HS.out (decide ((65536 : Int) ≤ bg + (J + 3) * 2 - vn)) (tightM_far hi _ (by decide) _ (by rw [HJI.out])), HG5.out.drewN _⟩
              case measure => simp [intOf]; omega
        · have ek : J.toNat = L.length := by omega
          have htb : tb = true := by
            have h := HK.out.1
            rw [ek] at h
            refine h.2 ?_
            rcases HT2.out with h | h | ⟨i, v, h1, h2⟩
            · exact .inl (.inl h)
            · exact .inl (.inr h)
            · exact .inr ⟨i, (List.getElem?_eq_some_iff.1 h1).1, v, h1, h2⟩
          subst htb
          have HG6 : Hid (Grew w1 wr) := HGW.out.trans HK.out.2
          clear HK HT2 ek
          go_wp2_with fail
          refine (works18_any _).mono ?_
          rintro r w5 ⟨rfl, hg5⟩
          have HG5 : Hid (Grew w1 w5) := HG6.out.trans hg5
          clear hg5
          go_wp2
          go_ret
          exact ⟨rfl, HG5.out⟩
  · clear hw hxp
    have HT2 := Lib.hid (HTI.out 4 (by decide) (by decide))
    clear HTI
    obtain ⟨bg, hbg⟩ : ∃ bg : Int, ((n : Int) + 4 - 1) / 4 * 4 = bg := ⟨_, rfl⟩
    rw [hbg] at HT2
    have hbg0 : 0 ≤ bg := by omega
    have hbg1 : bg ≤ 200000 := by omega
    have HBG := Lib.hid hbg
    clear hbg
    by_cases hT0 : (4294967296 : Int) ≤ L.length
    · exfalso; omega
    · go_wp2_with fail
      go_loopw [14, 15] (fun t i wr => ∃ J : Int, (0 ≤ J ∧ J ≤ L.length) ∧ i = .int .i64 J ∧ ∃ tb : Bool, t = .bool tb ∧ Hid (tightToM 4 bg ((4294967296 : Int) ≤ L.length ∨ (4294967296 : Int) ≤ bg - kn) L J.toNat tb ∧ Grew w4 wr)) (fun _ i _ => L.length - (intOf i).toNat)
      case atStart =>
        refine ⟨0, ⟨by omega, by omega⟩, rfl, _, rfl, ?_⟩
        show _ ∧ _
        exact ⟨tightToM.zero _ _ _ _ _ (by rw [HBG.out, Bool.or_eq_true, decide_eq_true_eq, decide_eq_true_eq]), (Grew.refl w4).alloc _⟩
      case round =>
        obtain ⟨J, ⟨hJ0, hJ1⟩, rfl, tb, rfl, HK⟩ := hrel
        by_cases hlt : J < L.length
        · obtain ⟨k, hk⟩ : ∃ k : Nat, J.toNat = k := ⟨_, rfl⟩
          have hkl : k < L.length := by omega
          obtain ⟨v, hv⟩ : ∃ v, L[k]? = some v := ⟨_, List.getElem?_eq_getElem hkl⟩
          have HS := Lib.hid (fun nb hnb => (by rw [hk] at HK; exact HK.out.1 : tightToM 4 bg ((4294967296 : Int) ≤ L.length ∨ (4294967296 : Int) ≤ bg - kn) L k tb).step hv nb hnb)
          have hnr := HNR.out v (List.mem_of_getElem? hv)
          have HI : Hid (inlineB v.1 = false → v.2.2 ≤ n) := hnr.2.2.2
          obtain ⟨u0, u1⟩ := hnr.2.1
          obtain ⟨va', vc', ev, hc⟩ := HV4.out
          cases ev
          obtain ⟨b, off, rfl, d0, d1, d2⟩ := hc k v hv
          rw [← hk] at d0 d1 d2
          replace d0 := HK.out.2.cell d0
          replace d1 := HK.out.2.cell d1
          replace d2 := HK.out.2.cell d2
          obtain ⟨ty, wd, vn⟩ := v
          simp only at d0 d1 d2 u0 u1 HI
          have HKJ := Lib.hid hk
          clear hc hnr hv hk hkl
          go_wp2_with fail
          refine (Ft.inline_any ty _).mono ?_
          rintro r w5 ⟨rfl, hg5⟩
          replace d0 := hg5.cell d0
          replace d1 := hg5.cell d1
          replace d2 := hg5.cell d2
          have HG5 := Lib.hid (HK.out.2.trans hg5)
          clear hg5 d0
          have HJK : Hid ((J + 1).toNat = k + 1) := by show _ = _; have := HKJ.out; omega
          have HJI : Hid ((k : Int) = J) := by show _ = _; have := HKJ.out; omega
          cases hi : inlineB ty with
          | true =>
            cases tb with
            | true =>
              go_wp2
              go_roundw
              case rel =>
                refine ⟨J + 1, ⟨by omega, by omega⟩, rfl, _, rfl, ?_⟩
                show _ ∧ _
                rw [HJK.out]
                exact ⟨HS.out (decide (4 < wd)) (by rw [decide_eq_true_eq]; exact ⟨fun h => .inl ⟨hi, h⟩, fun h => by rcases h with h | h; exact h.2; rw [show inlineB ty = false from h.1] at hi; cases hi⟩), HG5.out⟩
              case measure => simp [intOf]; omega
            | false =>
              go_wp2
              go_roundw
              case rel =>
                refine ⟨J + 1, ⟨by omega, by omega⟩, rfl, _, rfl, ?_⟩
                show _ ∧ _
                rw [HJK.out]
                exact ⟨HS.out (decide (4 < wd)) (by rw [decide_eq_true_eq]; exact ⟨fun h => .inl ⟨hi, h⟩, fun h => by rcases h with h | h; exact h.2; rw [show inlineB ty = false from h.1] at hi; cases hi⟩), HG5.out⟩
              case measure => simp [intOf]; omega
          | false =>
            have hvn := HI.out hi
            cases tb with
            | true =>
              go_wp2_with fail
              go_quiet (fail)
              go_wp2
              go_roundw
              case rel =>
                refine ⟨J + 1, ⟨by omega, by omega⟩, rfl, _, rfl, ?_⟩
                show _ ∧ _
                rw [HJK.out]
                try rw [HBG.out]
                exact ⟨HS.out (decide ((4294967296 : Int) ≤ bg + (J + 3) * 4 - vn)) (tightM_far hi _ (by decide) _ (by rw [HJI.out])), HG5.out.drewN _⟩
              case measure => simp [intOf]; omega
            | false =>
              go_wp2_with fail
              go_quiet (fail)
              go_wp2
              go_roundw
              case rel =>
                refine ⟨J + 1, ⟨by omega, by omega⟩, rfl, _, rfl, ?_⟩
                show _ ∧ _
                rw [HJK.out]
                try rw [HBG.out]
                exact ⟨HS.out (decide ((4294967296 : Int) ≤ bg + (J + 3) * 4 - vn)) (tightM_far hi _ (by decide) _ (by rw [HJI.out])), HG5.out.drewN _⟩
              case measure => simp [intOf]; omega
        · have ek : J.toNat = L.length := by omega
          have htb : tb = true := by
            have h := HK.out.1
            rw [ek] at h
            refine h.2 ?_
            rcases HT2.out with h | h | ⟨i, v, h1, h2⟩
            · exact .inl (.inl h)
            · exact .inl (.inr h)
            · exact .inr ⟨i, (List.getElem?_eq_some_iff.1 h1).1, v, h1, h2⟩
          subst htb
          have HG6 : Hid (Grew w1 wr) := HGW.out.trans HK.out.2
          clear HK HT2 ek
          go_wp2_with fail
          refine (works18_any _).mono ?_
          rintro r w5 ⟨rfl, hg5⟩
          have HG5 : Hid (Grew w1 w5) := HG6.out.trans hg5
          clear hg5
          go_wp2
          go_ret
          exact ⟨rfl, HG5.out⟩


set_option maxRecDepth 100000 in
theorem mapsLeast_row {H : Type} (enc : TypeId × Value → H) (W : World) (base : Nat) (v0 : Value) (d0 : DataW H) (p0 : List MemPlace) (o0 : Value.okWide Try.prog W .any base 3 v0) (k0 : DataW.Trod enc Try.prog W 0 (fun _ => true) true 3 v0 d0 p0) (v1 : Value) (d1 : DataW H) (p1 : List MemPlace) (o1 : Value.okWide Try.prog W .any base 3 v1) (k1 : DataW.Trod enc Try.prog W 0 (fun _ => true) true 3 v1 d1 p1) (v2 : Value) (d2 : DataW H) (p2 : List MemPlace) (o2 : Value.okWide Try.prog W .any base 22 v2) (k2 : DataW.Trod enc Try.prog W 0 (fun _ => true) true 22 v2 d2 p2) :
    Calls Try.prog 4 #[v0, v1, v2] W fun e w' => e = .returned (.bool true) ∧ Below W.heap.size W w' := by
  obtain ⟨m, rfl, _, _, _⟩ := open_int Try.underlying3 o0 k0
  obtain ⟨q, rfl, _, _, _⟩ := open_int Try.underlying3 o1 k1
  obtain ⟨l, hl, hlen, _⟩ := open_Prs o2 k2
  exact mapsLeast_any m q v2 l W hl.pairs hlen

theorem mapsLeast_own : ownKnob Try.prog.godebug = none := by kernel_rfl
theorem mapsLeast_laidOut : laidOutB Try.prog = true := by kernel_rfl

set_option maxRecDepth 100000 in
theorem mapsLeast_lifted (os : Os) (started : os.Started) (H : Type) (enc : TypeId × Value → H) :
    ReturnsInHanded {} Try.checked os 4 .any (Rows.mapsLeastSpec.pre6 enc Try.prog Try.f4 Rows.mapsLeastRow.domain false) (Rows.mapsLeastSpec.post enc Try.prog Try.f4 false true false false) := by
  refine returnsInHanded_of_change (C := Try.checked) mapsLeast_own started (by kernel_rfl) Try.func4
    (ChangeSpec.witness6 (enc := enc) (C := Try.checked) false ⟨#[], #[.int .i64 0, .int .i64 0, .slice none 0 0], []⟩ 8 (by kernel_rfl) (by kernel_rfl) (by kernel_rfl) (by kernel_rfl)) ?_
  intro W base args ds gs before hval0 hW hcnd _
  have hval : ∀ (j : Nat) t v, Try.f4.params[j]? = some t → args[j]? = some v → Value.okWide Try.prog W .any base t v := hval0
  have hW' := hW
  obtain ⟨p, q, hA0, hV, rfl, hfz, hnd⟩ := hW
  have hA : DataW.TrodAll enc Try.prog W 0 (fun _ => true) true Try.f4.params.toList args.toList ds p := hA0
  rw [Try.params4] at hA hval
  obtain ⟨v0, vs0, d0, ds0, p0, q0, hargs, rfl, rfl, h0, r0⟩ := trodAll_cons hA
  obtain ⟨v1, vs1, d1, ds1, p1, q1, rfl, rfl, rfl, h1, r1⟩ := trodAll_cons r0
  obtain ⟨v2, vs2, d2, ds2, p2, q2, rfl, rfl, rfl, h2, r2⟩ := trodAll_cons r1
  obtain ⟨rfl, rfl, rfl⟩ := trodAll_nil r2
  obtain rfl : args = #[v0, v1, v2] := by cases args; simp_all
  obtain ⟨rfl, rfl⟩ := trodVars_none hV
  have lt0 : ∀ x ∈ p0, x.block < W.heap.size := by obtain ⟨m, hm⟩ := h0; exact DataW.trod_lt m _ _ _ hm
  have lt1 : ∀ x ∈ p1, x.block < W.heap.size := by obtain ⟨m, hm⟩ := h1; exact DataW.trod_lt m _ _ _ hm
  have lt2 : ∀ x ∈ p2, x.block < W.heap.size := by obtain ⟨m, hm⟩ := h2; exact DataW.trod_lt m _ _ _ hm
  have hw := mapsLeast_row enc W base v0 d0 p0 (hval 0 3 v0 rfl rfl) h0 v1 d1 p1 (hval 1 3 v1 rfl rfl) h1 v2 d2 p2 (hval 2 22 v2 rfl rfl) h2
  clear hA0 hval0
  refine hw.mono fun e W' ⟨he, bel⟩ => ?_
  subst he
  exact ⟨_, rfl, _, _, _, [], _, [], hW', trodAll_mk1 (shut_bool Try.underlying4 _), (trodAll_cons_mk (Below.trod mapsLeast_laidOut (by kernel_rfl) (of_decide_eq_true (by kernel_rfl)) h0 bel lt0) (trodAll_cons_mk (Below.trod mapsLeast_laidOut (by kernel_rfl) (of_decide_eq_true (by kernel_rfl)) h1 bel lt1) (trodAll_cons_mk (Below.trod mapsLeast_laidOut (by kernel_rfl) (of_decide_eq_true (by kernel_rfl)) h2 bel lt2) trodAll_mk0))), rfl, Below.frame bel _, fun h => by cases h⟩

/-- The statement. -/
theorem mapsLeast_holds : Rows.MapsLeastSaid :=
  OpenClaim.holds_of_wide 4 Try.f4 rfl rfl rfl rfl rfl rfl rfl ⟨rfl, rfl, rfl, rfl, rfl⟩ rfl rfl rfl rfl rfl (by kernel_rfl) Try.func4 (by kernel_rfl)
    (of_decide_eq_true (by kernel_rfl)) (by unfold Func.isWrapper; first | (rw [if_pos (by decide +kernel)]; kernel_rfl) | (rw [if_neg (by decide +kernel)]; exact ⟨rfl, rfl⟩))
    (fun os started H enc _ => mapsLeast_lifted os started H enc)
end Go.Proofs.Ytajpbclcfjljnaa
