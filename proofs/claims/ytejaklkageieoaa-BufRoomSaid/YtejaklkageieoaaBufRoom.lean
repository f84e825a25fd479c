/-
  BufRoom: the length stays within the capacity; behind an error nothing changes.
-/
import Derived.Test.YtejaklkageieoaaRows
import Derived.Test.YtejaklkageieoaaBufOpen
import Derived.ProofKit
import Derived.OpenShut
import Derived.ShutString
import Derived.ChangeOld
import Derived.Below
import Derived.Lib.SmallJoins
namespace Go.Proofs.Ytejaklkageieoaa
open Go Go.ChangeShapes Go.WideShapes Go.ChangeAt Go.RowKit Go.Joins
open Go.ChangeMaps (open_string shut_string)
set_option linter.unusedVariables false
set_option linter.unusedSimpArgs false

theorem doS_stays {most : Int} {d : DoV} {s : St} (h : s.2 ≠ 0) : doS most d s = s := by
  obtain ⟨l, e⟩ := s
  simp only at h
  unfold doS alignS numS putS failP cutS putL putE cutL cutE failS
  simp [h]
set_option maxRecDepth 100000 in
set_option maxHeartbeats 4000000 in
theorem bufRoom_any (most : Int) (lv : Value) (l : List DoV) (w : World) (hl : DosAt w lv l) (hlen : l.length ≤ 9223372036854775807) (hok : ∀ x ∈ l, DoV.ok x) :
    Calls Try.prog 6 #[.int .i64 most, lv] w fun r w' => r = .returned (.bool true) ∧ Below w.heap.size w w' := by
  have HLV := Lib.hid hl
  obtain ⟨a0, cap, rfl, hcap, _⟩ := hl
  have HOK := Lib.hid hok
  clear hok
  have m0 := Int.emod_nonneg most (show (201 : Int) ≠ 0 by decide)
  have m1 := Int.emod_lt_of_pos most (show (0 : Int) < 201 by decide)
  go_enter Try.func6, Try.ntmps6
  go_wp2_with fail
  refine (bring_any most 201 _ (by decide) (by decide)).mono ?_
  have e : roomOf (most % 201) = most % 201 := by unfold roomOf; omega
  have HE := Lib.hid e
  clear e
  rintro r u0 ⟨rfl, rfl⟩
  generalize most % 201 = rm at *
  go_wp2_with fail
  refine (newL (w0 := u0) rm (Below.refl _ _)).mono ?_
  rw [HE.out]
  rintro r u1 ⟨rfl, h, hg, hlt⟩
  have H := Lib.hid h
  clear h hg hlt
  generalize u0.heap.size = p at *
  go_wp2_with fail
  go_loopw [6] (fun i wr => ∃ k : Nat, k ≤ l.length ∧ i = .int .i64 k ∧ ∃ s : St, Hid (Live u0 wr p rm s)) (fun i _ => l.length - (intOf i).toNat)
  case atStart => exact ⟨0, Nat.zero_le _, rfl, _, H⟩
  case round =>
    obtain ⟨k, hk, rfl, s, HW⟩ := hrel
    by_cases hlt : k < l.length
    · by_cases h60 : k < 60
      · obtain ⟨b, off, c, e1, hbw, hcl⟩ := HLV.out.nth k hlt
        have hd := HOK.out l[k] (List.getElem_mem hlt)
        have HD := Lib.hid hd
        generalize l[k] = dd at *
        injection e1 with e1 _ e3
        subst e1 e3
        have HC := Lib.hid hcl
        clear hd hcl H
        obtain ⟨d0, d1, d2, d3, d4⟩ := HC.out.below HW.out.below hbw
        go_wp2_with fail
        refine (lenL HW.out).mono ?_
        rintro r wa ⟨rfl, rfl⟩
        go_wp2_with fail
        refine (errL HW.out).mono ?_
        rintro r wb ⟨rfl, rfl⟩
        go_wp2_with fail
        refine (doesL dd HD.out HW.out).mono ?_
        rintro r wc ⟨rfl, h⟩
        have hle : ((doS rm dd s).1.length : Int) ≤ rm := by obtain ⟨_, _, _, h, _⟩ := h; exact h
        have HN := Lib.hid h
        clear h d0 d1 d2 d3 d4
        by_cases he : s.2 = 0
        · go_wp2_with fail
          refine (lenL HN.out).mono ?_
          rintro r wd ⟨rfl, rfl⟩
          generalize doS rm dd s = s2 at *
          go_wp2_with fail
          go_roundw
          case rel => exact ⟨k + 1, by omega, by go_num, s2, HN⟩
          case measure => simp [intOf]; omega
        · have HS := Lib.hid (doS_stays (most := rm) (d := dd) he)
          rw [HS.out] at hle
          have HN2 : Hid (Live u0 wc p rm s) := by show Live u0 wc p rm s; rw [← HS.out]; exact HN.out
          clear HN
          go_wp2_with fail
          refine (lenL HN2.out).mono ?_
          rintro r wd ⟨rfl, rfl⟩
          go_wp2_with fail
          refine (lenL HN2.out).mono ?_
          rintro r wd ⟨rfl, rfl⟩
          go_wp2_with fail
          refine (errL HN2.out).mono ?_
          rintro r wd ⟨rfl, rfl⟩
          go_wp2_with fail
          go_roundw
          case rel => exact ⟨k + 1, by omega, by go_num, s, HN2⟩
          case measure => simp [intOf]; omega
      · clear H
        go_wp2_with fail
        refine (works_any _).mono ?_
        rintro r w6 ⟨rfl, hb⟩
        have HB := Lib.hid hb
        clear hb
        go_wp2
        go_ret
        exact ⟨rfl, Below.trans HW.out.below (Below.mono HB.out HW.out.below.size)⟩
    · clear H
      go_wp2_with fail
      refine (works_any _).mono ?_
      rintro r w6 ⟨rfl, hb⟩
      have HB := Lib.hid hb
      clear hb
      go_wp2
      go_ret
      exact ⟨rfl, Below.trans HW.out.below (Below.mono HB.out HW.out.below.size)⟩

theorem bufRoom_row {H : Type} (enc : TypeId × Value → H) (W : World) (base : Nat) (v0 : Value) (d0 : DataW H) (p0 : List MemPlace) (o0 : Value.okWide Try.prog W .any base 3 v0) (k0 : DataW.Trod enc Try.prog W 0 (fun _ => true) true 3 v0 d0 p0) (v1 : Value) (d1 : DataW H) (p1 : List MemPlace) (o1 : Value.okWide Try.prog W .any base 22 v1) (k1 : DataW.Trod enc Try.prog W 0 (fun _ => true) true 22 v1 d1 p1) :
    Calls Try.prog 6 #[v0, v1] W fun e w' => e = .returned (.bool true) ∧ Below W.heap.size W w' := by
  obtain ⟨m, rfl, _, _, _⟩ := open_int Try.underlying3 o0 k0
  obtain ⟨l, hl, hlen, hok⟩ := open_Dos o1 k1
  exact bufRoom_any m v1 l W hl hlen hok

theorem bufRoom_own : ownKnob Try.prog.godebug = none := by kernel_rfl
theorem bufRoom_laidOut : laidOutB Try.prog = true := by kernel_rfl

set_option maxRecDepth 100000 in
theorem bufRoom_lifted (os : Os) (started : os.Started) (H : Type) (enc : TypeId × Value → H) :
    ReturnsInHanded {} Try.checked os 6 .any (Rows.bufRoomSpec.pre6 enc Try.prog Try.f6 Rows.bufRoomRow.domain false) (Rows.bufRoomSpec.post enc Try.prog Try.f6 false true false false) := by
  refine returnsInHanded_of_change (C := Try.checked) bufRoom_own started (by kernel_rfl) Try.func6
    (ChangeSpec.witness6 (enc := enc) (C := Try.checked) false ⟨#[], #[.int .i64 0, .slice none 0 0], []⟩ 8 (by kernel_rfl) (by kernel_rfl) (by kernel_rfl) (by kernel_rfl)) ?_
  intro W base args ds gs before hval0 hW hcnd _
  have hval : ∀ (j : Nat) t v, Try.f6.params[j]? = some t → args[j]? = some v → Value.okWide Try.prog W .any base t v := hval0
  have hW' := hW
  obtain ⟨p, q, hA0, hV, rfl, hfz, hnd⟩ := hW
  have hA : DataW.TrodAll enc Try.prog W 0 (fun _ => true) true Try.f6.params.toList args.toList ds p := hA0
  rw [Try.params6] at hA hval
  obtain ⟨v0, vs0, d0, ds0, p0, q0, hargs, rfl, rfl, h0, r0⟩ := trodAll_cons hA
  obtain ⟨v1, vs1, d1, ds1, p1, q1, rfl, rfl, rfl, h1, r1⟩ := trodAll_cons r0
  obtain ⟨rfl, rfl, rfl⟩ := trodAll_nil r1
  obtain rfl : args = #[v0, v1] := by cases args; simp_all
  obtain ⟨rfl, rfl⟩ := trodVars_none hV
  have lt0 : ∀ x ∈ p0, x.block < W.heap.size := by obtain ⟨m, hm⟩ := h0; exact DataW.trod_lt m _ _ _ hm
  have lt1 : ∀ x ∈ p1, x.block < W.heap.size := by obtain ⟨m, hm⟩ := h1; exact DataW.trod_lt m _ _ _ hm
  have hw := bufRoom_row enc W base v0 d0 p0 (hval 0 3 v0 rfl rfl) h0 v1 d1 p1 (hval 1 22 v1 rfl rfl) h1
  clear hA0 hval0
  refine hw.mono fun e W' ⟨he, bel⟩ => ?_
  subst he
  exact ⟨_, rfl, _, _, _, [], _, [], hW', trodAll_mk1 (shut_bool Try.underlying4 _), (trodAll_cons_mk (Below.trod bufRoom_laidOut (by kernel_rfl) (of_decide_eq_true (by kernel_rfl)) h0 bel lt0) (trodAll_cons_mk (Below.trod bufRoom_laidOut (by kernel_rfl) (of_decide_eq_true (by kernel_rfl)) h1 bel lt1) trodAll_mk0)), rfl, Below.frame bel _, fun h => by cases h⟩

/-- The statement. -/
theorem bufRoom_holds : Rows.BufRoomSaid :=
  OpenClaim.holds_of_wide 6 Try.f6 rfl rfl rfl rfl rfl rfl rfl ⟨rfl, rfl, rfl, rfl, rfl⟩ rfl rfl rfl rfl rfl (by kernel_rfl) Try.func6 (by kernel_rfl)
    (of_decide_eq_true (by kernel_rfl)) (by unfold Func.isWrapper; first | (rw [if_pos (by decide +kernel)]; kernel_rfl) | (rw [if_neg (by decide +kernel)]; exact ⟨rfl, rfl⟩))
    (fun os started H enc _ => bufRoom_lifted os started H enc)
end Go.Proofs.Ytejaklkageieoaa
