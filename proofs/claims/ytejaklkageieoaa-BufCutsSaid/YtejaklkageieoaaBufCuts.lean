/-
  BufCuts: what is appended behind Cut is as if the removed bytes had never been appended.
-/
import Derived.Test.YtejaklkageieoaaRows
import Derived.Test.YtejaklkageieoaaBufOpen
import Derived.Test.YtejaklkageieoaaBufPlain
import Derived.ProofKit
import Derived.OpenShut
import Derived.ShutString
import Derived.ChangeOld
import Derived.Below
import Derived.Lib.SmallJoins
namespace Go.Proofs.Ytejaklkageieoaa
open Go Go.ChangeShapes Go.WideShapes Go.ChangeAt Go.RowKit Go.Joins
open Go.ChangeMaps (open_string shut_string)
set_option linter.unusedVariables false
set_option linter.unusedSimpArgs false

theorem start_app {w0 w : World} {p q : Nat} {m m' : Int} {s : St} (h : LiveBB w0 w p q m m' s s) (h0 : s.2 = 0) : LiveBB w0 w p q m m' s (s.1 ++ [], 0) := by
  have e : (s.1 ++ [], (0 : Int)) = s := by rw [List.append_nil, ← h0]
  rw [e]; exact h
set_option maxRecDepth 100000 in
set_option maxHeartbeats 8000000 in
theorem bufCuts_any (lv gv mv : Value) (l gone more : List DoV) (w : World) (hl : DosAt w lv l) (hlg : DosAt w gv gone) (hlm : DosAt w mv more) (hlen : l.length ≤ 9223372036854775807) (hleng : gone.length ≤ 9223372036854775807) (hlenm : more.length ≤ 9223372036854775807) (hok : ∀ x ∈ l, DoV.ok x) (hokg : ∀ x ∈ gone, DoV.ok x) (hokm : ∀ x ∈ more, DoV.ok x) :
    Calls Try.prog 5 #[lv, gv, mv] w fun r w' => r = .returned (.bool true) ∧ Below w.heap.size w w' := by
  have HLV := Lib.hid hl
  have HGV := Lib.hid hlg
  have HMV := Lib.hid hlm
  obtain ⟨a0, cap, rfl, hcap, _⟩ := hl
  obtain ⟨a0g, capg, rfl, hcapg, _⟩ := hlg
  obtain ⟨a0m, capm, rfl, hcapm, _⟩ := hlm
  have HOK := Lib.hid hok
  have HOKG := Lib.hid hokg
  have HOKM := Lib.hid hokm
  clear hok hokg hokm
  go_enter Try.func5, Try.ntmps5
  go_wp2_with fail
  refine (newL (w0 := w) 1048576 (Below.refl _ _)).mono ?_
  rw [show roomOf 1048576 = 1048576 by kernel_rfl]
  rintro r u1 ⟨rfl, h, hg, hlt⟩
  have H := Lib.hid h
  clear h hg hlt
  go_wp2_with fail
  refine (new2 1048576 H.out).mono ?_
  rw [show roomOf 1048576 = 1048576 by kernel_rfl]
  rintro r u2 ⟨rfl, h⟩
  have H2 := Lib.hid h
  clear h
  generalize w.heap.size = p at *
  generalize u1.heap.size = q at *
  clear H
  go_wp2_with fail
  go_loopw [9] (fun i wr => ∃ k : Nat, k ≤ l.length ∧ k ≤ 30 ∧ i = .int .i64 k ∧ ∃ s : St, Hid (LiveBB w wr p q 1048576 1048576 s s ∧ s.2 = 0 ∧ s.1.length ≤ 48 * k)) (fun i _ => l.length - (intOf i).toNat)
  case atStart => exact ⟨0, Nat.zero_le _, by omega, rfl, _, H2.out, rfl, by simp⟩
  case round =>
    obtain ⟨k, hk, hk30, rfl, s, HW⟩ := hrel
    clear H2
    by_cases hgo : k < l.length ∧ k < 30
    · obtain ⟨hlt, h30⟩ := hgo
      obtain ⟨b, off, c, e1, hbw, hcl⟩ := HLV.out.nth k hlt
      have hd := HOK.out l[k] (List.getElem_mem hlt)
      have HD := Lib.hid hd
      generalize l[k] = dd at *
      injection e1 with e1 _ e3
      subst e1 e3
      have HC := Lib.hid hcl
      clear hd hcl
      obtain ⟨d0, d1, d2, d3, d4⟩ := HC.out.below HW.out.1.below hbw
      have HF : Hid ((fineS 1048576 dd s).2 = 0 ∧ (fineS 1048576 dd s).1.length ≤ 48 * (k + 1)) := fine_bound HD.out HW.out.2.1 (by have := HW.out.2.2; omega)
      go_wp2_with fail
      refine (fineBB1 dd HD.out HW.out.1).mono ?_
      rintro r wa ⟨rfl, h⟩
      have HA := Lib.hid h
      clear h d0 d1 d2 d3 d4
      obtain ⟨d0, d1, d2, d3, d4⟩ := HC.out.below HA.out.below hbw
      go_wp2_with fail
      refine (fineBB2 dd HD.out HA.out).mono ?_
      rintro r wb ⟨rfl, h⟩
      generalize fineS 1048576 dd s = s2 at *
      have HB := Lib.hid h
      clear h d0 d1 d2 d3 d4
      go_wp2_with fail
      go_roundw
      case rel => exact ⟨k + 1, by omega, by omega, by go_num, s2, HB.out, HF.out.1, HF.out.2⟩
      case measure => simp [intOf]; omega
    · have hstop : (k = l.length ∧ k ≤ 30) ∨ (k < l.length ∧ k = 30) := by omega
      have HSL := Lib.hid HW.out.2
      have hsl : s.1.length ≤ 1440 := by have := HW.out.2.2; omega
      have HB1 := Lib.hid HW.out.1
      clear HW hgo
      obtain ⟨wo, rfl⟩ : ∃ wo : World, wo = wr := ⟨_, rfl⟩
      have hdec : (k < l.length ∧ ¬ k < 30) ∨ ¬ k < l.length := by omega
      clear hstop
      rcases hdec with ⟨hdec1, hdec2⟩ | hdec1
      all_goals
        go_wp2_with fail
        refine (lenL HB1.out.one).mono ?_
        rintro r wb ⟨rfl, rfl⟩
        clear hdec1
        go_wp2_with fail
        go_loopw [11] (fun i wr => ∃ k : Nat, k ≤ gone.length ∧ k ≤ 30 ∧ i = .int .i64 k ∧ ∃ y : List UInt8, Hid (LiveBB w wr p q 1048576 1048576 s (s.1 ++ y, 0) ∧ y.length ≤ 48 * k)) (fun i _ => gone.length - (intOf i).toNat)
        case atStart => exact ⟨0, Nat.zero_le _, by omega, rfl, [], by exact ⟨start_app HB1.out HSL.out.1, by simp⟩⟩
        case round =>
          obtain ⟨k2, hk2, hk230, rfl, y, HW⟩ := hrel
          by_cases hgo : k2 < gone.length ∧ k2 < 30
          · obtain ⟨hlt, h30⟩ := hgo
            obtain ⟨b, off, c, e1, hbw, hcl⟩ := HGV.out.nth k2 hlt
            have hd := HOKG.out gone[k2] (List.getElem_mem hlt)
            have HD := Lib.hid hd
            generalize gone[k2] = dd at *
            injection e1 with e1 _ e3
            subst e1 e3
            have HC := Lib.hid hcl
            clear hd hcl
            obtain ⟨d0, d1, d2, d3, d4⟩ := HC.out.below HW.out.1.below hbw
            go_wp2_with fail
            refine (bring_any dd.kind 5 _ (by decide) (by decide)).mono ?_
            by_cases h3 : dd.kind % 5 = 3
            · rw [h3]
              rintro r wa ⟨rfl, rfl⟩
              go_wp2_with fail
              go_roundw
              case rel => exact ⟨k2 + 1, by omega, by omega, by go_num, y, HW.out.1, by have := HW.out.2; omega⟩
              case measure => simp [intOf]; omega
            · have h3' : (dd.kind % 5 != 3) = true := by simpa using h3
              have HF : Hid (∃ y' : List UInt8, y'.length ≤ 40 ∧ fineS 1048576 dd (s.1 ++ y, 0) = (s.1 ++ y ++ y', 0)) := (fine_form HD.out (by have := HW.out.2; rw [List.length_append]; omega)).2 h3
              clear h3
              rintro r wa ⟨rfl, rfl⟩
              go_wp2_with fail
              refine (fineBB2 dd HD.out HW.out.1).mono ?_
              rintro r wb ⟨rfl, h⟩
              have HB := Lib.hid h
              clear h d0 d1 d2 d3 d4
              go_wp2_with fail
              go_roundw
              case rel =>
                obtain ⟨y', hy', e'⟩ := HF.out
                have h5 := HB.out
                rw [e', List.append_assoc] at h5
                exact ⟨k2 + 1, by omega, by omega, by go_num, y ++ y', h5, by have := HW.out.2; rw [List.length_append]; omega⟩
              case measure => simp [intOf]; omega
          · have HY := Lib.hid HW.out.1
            have hyl : y.length ≤ 1440 := by have := HW.out.2; omega
            have hdec : (k2 < gone.length ∧ ¬ k2 < 30) ∨ ¬ k2 < gone.length := by omega
            have hcut : Hid (cutS (s.1.length : Int) (s.1 ++ y, 0) = s) := by
              show (cutL (s.1 ++ y) (s.1.length : Int) 0, cutE (s.1 ++ y) (s.1.length : Int) 0) = s
              unfold cutL cutE
              have h1 : (0 : Int) ≤ (s.1.length : Int) ∧ (s.1.length : Int) ≤ (s.1 ++ y).length := by rw [List.length_append]; omega
              rw [if_pos ⟨rfl, h1⟩, if_neg (fun h => h.2 h1), Int.toNat_natCast, List.take_left, ← HSL.out.1]
            clear HW hgo HB1
            rcases hdec with ⟨hdec1, hdec2⟩ | hdec1
            all_goals
              go_wp2_with fail
              refine (cutBB2 (s.1.length : Int) HY.out).mono ?_
              rintro r wb ⟨rfl, h⟩
              rw [hcut.out] at h
              have HB1 := Lib.hid h
              clear h hdec1 HY
              go_wp2_with fail
              go_loopw [12] (fun i wr => ∃ k : Nat, k ≤ more.length ∧ k ≤ 30 ∧ i = .int .i64 k ∧ ∃ s : St, Hid (LiveBB w wr p q 1048576 1048576 s s ∧ s.2 = 0 ∧ s.1.length ≤ 1440 + 48 * k)) (fun i _ => more.length - (intOf i).toNat)
              case atStart => exact ⟨0, Nat.zero_le _, by omega, rfl, s, HB1.out, HSL.out.1, by omega⟩
              case round =>
                obtain ⟨k3, hk3, hk330, rfl, s3, HW⟩ := hrel
                clear HB1 hcut HSL hsl
                by_cases hgo : k3 < more.length ∧ k3 < 30
                · obtain ⟨hlt, h30⟩ := hgo
                  obtain ⟨b, off, c, e1, hbw, hcl⟩ := HMV.out.nth k3 hlt
                  have hd := HOKM.out more[k3] (List.getElem_mem hlt)
                  have HD := Lib.hid hd
                  generalize more[k3] = dd at *
                  injection e1 with e1 _ e3
                  subst e1 e3
                  have HC := Lib.hid hcl
                  clear hd hcl
                  obtain ⟨d0, d1, d2, d3, d4⟩ := HC.out.below HW.out.1.below hbw
                  have HF : Hid ((fineS 1048576 dd s3).2 = 0 ∧ (fineS 1048576 dd s3).1.length ≤ 1440 + 48 * (k3 + 1)) := fine_bound HD.out HW.out.2.1 (by have := HW.out.2.2; omega)
                  go_wp2_with fail
                  refine (fineBB1 dd HD.out HW.out.1).mono ?_
                  rintro r wa ⟨rfl, h⟩
                  have HA := Lib.hid h
                  clear h d0 d1 d2 d3 d4
                  obtain ⟨d0, d1, d2, d3, d4⟩ := HC.out.below HA.out.below hbw
                  go_wp2_with fail
                  refine (fineBB2 dd HD.out HA.out).mono ?_
                  rintro r wb ⟨rfl, h⟩
                  generalize fineS 1048576 dd s3 = s4 at *
                  have HB := Lib.hid h
                  clear h d0 d1 d2 d3 d4
                  go_wp2_with fail
                  go_roundw
                  case rel => exact ⟨k3 + 1, by omega, by omega, by go_num, s4, HB.out, HF.out.1, HF.out.2⟩
                  case measure => simp [intOf]; omega
                · have hdec : (k3 < more.length ∧ ¬ k3 < 30) ∨ ¬ k3 < more.length := by omega
                  have HX := Lib.hid HW.out.1
                  have HX2 := Lib.hid HW.out.2
                  clear HW hgo
                  rcases hdec with ⟨hdec1, hdec2⟩ | hdec1
                  all_goals
                    go_wp2_with fail
                    refine (bytesBB1 HX.out).mono ?_
                    rintro r wc ⟨v1, rfl, hv1, _, hg1⟩
                    have HV1 := Lib.hid hv1
                    have HL1 := Lib.hid (HX.out.grew hg1)
                    clear hv1 hg1 hdec1
                    go_wp2_with fail
                    refine (bytesBB2 HL1.out).mono ?_
                    rintro r wd ⟨v2, rfl, hv2, _, hg2⟩
                    have HV2 := Lib.hid hv2
                    have HV12 := Lib.hid (HV1.out.grew hg2)
                    have HL2 := Lib.hid (HL1.out.grew hg2)
                    clear hv2 hg2
                    rw [HX2.out.1]
                    go_wp2_with fail
                    refine (eqBytes_any v1 v2 _ _ HV12.out HV2.out).mono ?_
                    rw [decide_eq_true (rfl : outS s3 = outS s3)]
                    rintro r we ⟨rfl, rfl⟩
                    go_wp2_with fail
                    refine (works_any _).mono ?_
                    rintro r w6 ⟨rfl, hb⟩
                    have HB := Lib.hid hb
                    clear hb
                    go_wp2
                    go_ret
                    exact ⟨rfl, Below.trans HL2.out.below (Below.mono HB.out HL2.out.below.size)⟩

theorem bufCuts_row {H : Type} (enc : TypeId × Value → H) (W : World) (base : Nat) (v0 : Value) (d0 : DataW H) (p0 : List MemPlace) (o0 : Value.okWide Try.prog W .any base 22 v0) (k0 : DataW.Trod enc Try.prog W 0 (fun _ => true) true 22 v0 d0 p0) (v1 : Value) (d1 : DataW H) (p1 : List MemPlace) (o1 : Value.okWide Try.prog W .any base 22 v1) (k1 : DataW.Trod enc Try.prog W 0 (fun _ => true) true 22 v1 d1 p1) (v2 : Value) (d2 : DataW H) (p2 : List MemPlace) (o2 : Value.okWide Try.prog W .any base 22 v2) (k2 : DataW.Trod enc Try.prog W 0 (fun _ => true) true 22 v2 d2 p2) :
    Calls Try.prog 5 #[v0, v1, v2] W fun e w' => e = .returned (.bool true) ∧ Below W.heap.size W w' := by
  obtain ⟨l, hl, hlen, hok⟩ := open_Dos o0 k0
  obtain ⟨l1, hl1, hlen1, hok1⟩ := open_Dos o1 k1
  obtain ⟨l2, hl2, hlen2, hok2⟩ := open_Dos o2 k2
  exact bufCuts_any v0 v1 v2 l l1 l2 W hl hl1 hl2 hlen hlen1 hlen2 hok hok1 hok2

theorem bufCuts_own : ownKnob Try.prog.godebug = none := by kernel_rfl
theorem bufCuts_laidOut : laidOutB Try.prog = true := by kernel_rfl

set_option maxRecDepth 100000 in
theorem bufCuts_lifted (os : Os) (started : os.Started) (H : Type) (enc : TypeId × Value → H) :
    ReturnsInHanded {} Try.checked os 5 .any (Rows.bufCutsSpec.pre6 enc Try.prog Try.f5 Rows.bufCutsRow.domain false) (Rows.bufCutsSpec.post enc Try.prog Try.f5 false true false false) := by
  refine returnsInHanded_of_change (C := Try.checked) bufCuts_own started (by kernel_rfl) Try.func5
    (ChangeSpec.witness6 (enc := enc) (C := Try.checked) false ⟨#[], #[.slice none 0 0, .slice none 0 0, .slice none 0 0], []⟩ 8 (by kernel_rfl) (by kernel_rfl) (by kernel_rfl) (by kernel_rfl)) ?_
  intro W base args ds gs before hval0 hW hcnd _
  have hval : ∀ (j : Nat) t v, Try.f5.params[j]? = some t → args[j]? = some v → Value.okWide Try.prog W .any base t v := hval0
  have hW' := hW
  obtain ⟨p, q, hA0, hV, rfl, hfz, hnd⟩ := hW
  have hA : DataW.TrodAll enc Try.prog W 0 (fun _ => true) true Try.f5.params.toList args.toList ds p := hA0
  rw [Try.params5] at hA hval
  obtain ⟨v0, vs0, d0, ds0, p0, q0, hargs, rfl, rfl, h0, r0⟩ := trodAll_cons hA
  obtain ⟨v1, vs1, d1, ds1, p1, q1, rfl, rfl, rfl, h1, r1⟩ := trodAll_cons r0
  obtain ⟨v2, vs2, d2, ds2, p2, q2, rfl, rfl, rfl, h2, r2⟩ := trodAll_cons r1
  obtain ⟨rfl, rfl, rfl⟩ := trodAll_nil r2
  obtain rfl : args = #[v0, v1, v2] := by cases args; simp_all
  obtain ⟨rfl, rfl⟩ := trodVars_none hV
  have lt0 : ∀ x ∈ p0, x.block < W.heap.size := by obtain ⟨m, hm⟩ := h0; exact DataW.trod_lt m _ _ _ hm
  have lt1 : ∀ x ∈ p1, x.block < W.heap.size := by obtain ⟨m, hm⟩ := h1; exact DataW.trod_lt m _ _ _ hm
  have lt2 : ∀ x ∈ p2, x.block < W.heap.size := by obtain ⟨m, hm⟩ := h2; exact DataW.trod_lt m _ _ _ hm
  have hw := bufCuts_row enc W base v0 d0 p0 (hval 0 22 v0 rfl rfl) h0 v1 d1 p1 (hval 1 22 v1 rfl rfl) h1 v2 d2 p2 (hval 2 22 v2 rfl rfl) h2
  clear hA0 hval0
  refine hw.mono fun e W' ⟨he, bel⟩ => ?_
  subst he
  exact ⟨_, rfl, _, _, _, [], _, [], hW', trodAll_mk1 (shut_bool Try.underlying4 _), (trodAll_cons_mk (Below.trod bufCuts_laidOut (by kernel_rfl) (of_decide_eq_true (by kernel_rfl)) h0 bel lt0) (trodAll_cons_mk (Below.trod bufCuts_laidOut (by kernel_rfl) (of_decide_eq_true (by kernel_rfl)) h1 bel lt1) (trodAll_cons_mk (Below.trod bufCuts_laidOut (by kernel_rfl) (of_decide_eq_true (by kernel_rfl)) h2 bel lt2) trodAll_mk0))), rfl, Below.frame bel _, fun h => by cases h⟩

/-- The statement. -/
theorem bufCuts_holds : Rows.BufCutsSaid :=
  OpenClaim.holds_of_wide 5 Try.f5 rfl rfl rfl rfl rfl rfl rfl ⟨rfl, rfl, rfl, rfl, rfl⟩ rfl rfl rfl rfl rfl (by kernel_rfl) Try.func5 (by kernel_rfl)
    (of_decide_eq_true (by kernel_rfl)) (by unfold Func.isWrapper; first | (rw [if_pos (by decide +kernel)]; kernel_rfl) | (rw [if_neg (by decide +kernel)]; exact ⟨rfl, rfl⟩))
    (fun os started H enc _ => bufCuts_lifted os started H enc)
end Go.Proofs.Ytejaklkageieoaa
