/-
  BuildStops: the first error stays and nothing happens behind it.
-/
import Derived.Test.YtjnpcddbgfmpcaaGreatRows
import Derived.Test.YtjnpcddbgfmpcaaGreatPBM
import Derived.ProofKit
import Derived.OpenShut
import Derived.ShutString
import Derived.ChangeOld
import Derived.Below
import Derived.Lib.SmallJoins
namespace Go.Proofs.YtjnpcddbgfmpcaaGreat
open Go Go.ChangeShapes Go.WideShapes Go.ChangeAt Go.RowKit Go.Joins
open Go.ChangeMaps (open_string shut_string)
open Go.Deep
open Go.Proofs.YtjnpcddbgfmpcaaGreat.Ft (V3 vV okV ValsAt inlineB legalB packF codeF typedF allF)
set_option linter.unusedVariables false
set_option linter.unusedSimpArgs false

section
variable {q : Ptrs} {most flags : Int} {x : BS} {w w0 : World}
theorem LiveX.err (h : LiveX w0 q most flags x w) : Calls Tryz.prog 10 #[bptr q.p] w fun r w' => r = .returned (.int .i64 x.e) ∧ w' = w := by obtain ⟨κ, h1, _⟩ := h; exact berr_any h1
theorem LiveX.len (h : LiveX w0 q most flags x w) : Calls Tryz.prog 11 #[bptr q.p] w fun r w' => r = .returned (.int .i64 x.stk.length) ∧ w' = w := by obtain ⟨κ, h1, _⟩ := h; exact blen_any h1
end
set_option maxRecDepth 100000 in
set_option maxHeartbeats 4000000 in
theorem buildStops_any (flags room : Int) (lv : Value) (l : List DoB) (w : World) (hd : DosAt w lv l) :
    Calls Tryz.prog 3 #[.int .i64 flags, .int .i64 room, lv] w fun r w' => r = .returned (.bool true) ∧ Below w.heap.size w w' := by
  have HD := Lib.hid hd
  obtain ⟨a, c, rfl, hll, hcell⟩ := hd
  have HC := Lib.hid hcell
  clear hcell
  have m0 := Int.emod_nonneg room (show (301 : Int) ≠ 0 by decide)
  have m1 := Int.emod_lt_of_pos room (show (0 : Int) < 301 by decide)
  have HBR : Hid (∀ w, Calls Tryz.prog 9 #[.int .i64 room, .int .i64 301] w fun r w' => r = .returned (.int .i64 (room % 301)) ∧ w' = w) := fun w => bringL_any room 301 w (by decide) (by decide)
  go_enter Tryz.func3, Tryz.ntmps3
  go_wp2_with fail
  refine (HBR.out _).mono ?_
  have HE := Lib.hid (show roomOf (room % 301) = room % 301 by unfold roomOf; omega)
  rintro r u0 ⟨rfl, rfl⟩
  generalize room % 301 = rm at *
  go_wp2_with fail
  refine (new_live (w0 := u0) flags rm (Grew.refl u0)).mono ?_
  rw [HE.out]
  rintro r w1 ⟨q, rfl, hl⟩
  have HL1 := Lib.hid hl
  clear hl
  go_wp2_with fail
  go_loopw [8] (fun i wr => ∃ k : Nat, k ≤ l.length ∧ i = .int .i64 k ∧ ∃ x : BS, Hid x.Good ∧ Hid (LiveX u0 q rm flags x wr)) (fun i _ => l.length - (intOf i).toNat)
  case atStart => exact ⟨0, Nat.zero_le _, rfl, BS.new, BS.Good.new, HL1⟩
  case round =>
    obtain ⟨k, hk, rfl, x, HG, HW⟩ := hrel
    clear HL1
    by_cases hlt : k < l.length
    · by_cases h60 : k < 60
      · obtain ⟨d, hd⟩ : ∃ d, l[k]? = some d := ⟨_, List.getElem?_eq_getElem hlt⟩
        have hce := HC.out k d hd
        obtain ⟨b, off, rfl, hdc⟩ := hce
        have hdw := hdc.grew HW.out.below
        have hlen : ((doB rm flags d x).1.1.length : Int) ≤ rm := doB_len m0 HW.out.ok.len
        have HST := Lib.hid (fun h : x.e ≠ 0 => doB_stuck (most := rm) (flags := flags) (d := d) h)
        have HGN := Lib.hid (BS.Good.doB (most := rm) (flags := flags) (d := d) HG.out)
        clear hdc hd
        obtain ⟨kd, st, nn, uu, ss, ll, tt⟩ := d
        obtain ⟨la, lc, ta, tc, hcs, hrow, htx, hn, hu, hs, hr⟩ := hdw
        have d0 := hcs.1
        have d1 := hcs.2.1
        have d2 := hcs.2.2.1
        have d3 := hcs.2.2.2.1
        have d4 := hcs.2.2.2.2.1
        have d5 := hcs.2.2.2.2.2.1
        have d6 := hcs.2.2.2.2.2.2
        clear hcs
        dsimp only at d0 d1 d2 d3 d4 d5 d6 hrow htx hn hu hs hr
        have HAR := Lib.hid (And.intro hrow (And.intro htx (And.intro hn (And.intro hu (And.intro hs hr)))))
        clear hrow htx hn hu hs hr
        have hki : (k : Int) < l.length := by omega
        go_wp2_with fail
        refine HW.out.err.mono ?_
        rintro r wa ⟨rfl, rfl⟩
        go_wp2_with fail
        refine HW.out.len.mono ?_
        rintro r wb ⟨rfl, rfl⟩
        go_wp2_with fail
        refine (HW.out.fin fun κ hb => does_any kd st nn uu ss la lc ll ta tc tt HAR.out.1 HAR.out.2.1 HAR.out.2.2.1 HAR.out.2.2.2.1 HAR.out.2.2.2.2.1 HAR.out.2.2.2.2.2 HG.out hb).mono ?_
        generalize doB rm flags ⟨kd, st, nn, uu, ss, ll, tt⟩ x = R at *
        obtain ⟨⟨dd, de⟩, X⟩ := R
        dsimp only at hlen ⊢
        rintro r w3 ⟨ra, rc, rfl, hl3, _⟩
        have HL3 := Lib.hid hl3
        have HGX : Hid X.Good := HGN.out
        clear hl3 d0 d1 d2 d3 d4 d5 d6 HAR
        by_cases he : x.e = 0
        · go_wp2_with fail
          refine (HBR.out _).mono ?_
          rintro r wd ⟨rfl, rfl⟩
          clear HST HGN
          go_wp2_with fail
          go_roundw
          case rel => exact ⟨k + 1, by omega, by go_num, X, HGX, HL3⟩
          case measure => simp [intOf]; omega
        · obtain ⟨s1, s2, s3, s4⟩ := HST.out he
          dsimp only at s1 s2 s3 s4
          subst s3
          rw [← s2, ← s1]
          go_wp2_with fail
          refine HL3.out.err.mono ?_
          rintro r wa ⟨rfl, rfl⟩
          rcases s4 with rfl | rfl
          all_goals
            go_wp2_with fail
            refine HL3.out.len.mono ?_
            rintro r wa ⟨rfl, rfl⟩
            clear HST HGN
            go_wp2_with fail
            refine (HBR.out _).mono ?_
            rintro r wd ⟨rfl, rfl⟩
            go_wp2_with fail
            go_roundw
            case rel => exact ⟨k + 1, by omega, by go_num, X, HGX, HL3⟩
            case measure => simp [intOf]; omega
      · go_wp2_with fail
        refine (works19_any _).mono ?_
        rintro r w6 ⟨rfl, hb⟩
        have HB := Lib.hid hb
        clear hb
        go_wp2
        go_ret
        exact ⟨rfl, Below.trans HW.out.below (Below.mono HB.out HW.out.below.size)⟩
    · go_wp2_with fail
      refine (works19_any _).mono ?_
      rintro r w6 ⟨rfl, hb⟩
      have HB := Lib.hid hb
      clear hb
      go_wp2
      go_ret
      exact ⟨rfl, Below.trans HW.out.below (Below.mono HB.out HW.out.below.size)⟩

set_option maxRecDepth 100000 in
set_option maxHeartbeats 4000000 in
theorem buildStops_row {H : Type} (enc : TypeId × Value → H) (W : World) (base : Nat) (v0 : Value) (d0 : DataW H) (p0 : List MemPlace) (o0 : Value.okWide Tryz.prog W .any base 3 v0) (k0 : DataW.Trod enc Tryz.prog W 0 (fun _ => true) true 3 v0 d0 p0) (v1 : Value) (d1 : DataW H) (p1 : List MemPlace) (o1 : Value.okWide Tryz.prog W .any base 3 v1) (k1 : DataW.Trod enc Tryz.prog W 0 (fun _ => true) true 3 v1 d1 p1) (v2 : Value) (d2 : DataW H) (p2 : List MemPlace) (o2 : Value.okWide Tryz.prog W .any base 22 v2) (k2 : DataW.Trod enc Tryz.prog W 0 (fun _ => true) true 22 v2 d2 p2) :
    Calls Tryz.prog 3 #[v0, v1, v2] W fun e w' => e = .returned (.bool true) ∧ Below W.heap.size W w' := by
  obtain ⟨fl, rfl, _, _, _⟩ := open_int Tryz.underlying3 o0 k0
  obtain ⟨m, rfl, _, _, _⟩ := open_int Tryz.underlying3 o1 k1
  obtain ⟨l, hl⟩ := open_dos o2 k2
  exact buildStops_any fl m v2 l W hl

theorem buildStops_own : ownKnob Tryz.prog.godebug = none := by kernel_rfl
theorem buildStops_laidOut : laidOutB Tryz.prog = true := by kernel_rfl

set_option maxRecDepth 100000 in
theorem buildStops_lifted (os : Os) (started : os.Started) (H : Type) (enc : TypeId × Value → H) :
    ReturnsInHanded {} Tryz.checked os 3 .any (Rows.buildStopsSpec.pre6 enc Tryz.prog Tryz.f3 Rows.buildStopsRow.domain false) (Rows.buildStopsSpec.post enc Tryz.prog Tryz.f3 false true false false) := by
  refine returnsInHanded_of_change (C := Tryz.checked) buildStops_own started (by kernel_rfl) Tryz.func3
    (ChangeSpec.witness6 (enc := enc) (C := Tryz.checked) false ⟨#[], #[.int .i64 0, .int .i64 0, .slice none 0 0], []⟩ 8 (by kernel_rfl) (by kernel_rfl) (by kernel_rfl) (by kernel_rfl)) ?_
  intro W base args ds gs before hval0 hW hcnd _
  have hval : ∀ (j : Nat) t v, Tryz.f3.params[j]? = some t → args[j]? = some v → Value.okWide Tryz.prog W .any base t v := hval0
  have hW' := hW
  obtain ⟨p, q, hA0, hV, rfl, hfz, hnd⟩ := hW
  have hA : DataW.TrodAll enc Tryz.prog W 0 (fun _ => true) true Tryz.f3.params.toList args.toList ds p := hA0
  rw [Tryz.params3] at hA hval
  obtain ⟨v0, vs0, d0, ds0, p0, q0, hargs, rfl, rfl, h0, r0⟩ := trodAll_cons hA
  obtain ⟨v1, vs1, d1, ds1, p1, q1, rfl, rfl, rfl, h1, r1⟩ := trodAll_cons r0
  obtain ⟨v2, vs2, d2, ds2, p2, q2, rfl, rfl, rfl, h2, r2⟩ := trodAll_cons r1
  obtain ⟨rfl, rfl, rfl⟩ := trodAll_nil r2
  obtain rfl : args = #[v0, v1, v2] := by cases args; simp_all
  obtain ⟨rfl, rfl⟩ := trodVars_none hV
  have lt0 : ∀ x ∈ p0, x.block < W.heap.size := by obtain ⟨m, hm⟩ := h0; exact DataW.trod_lt m _ _ _ hm
  have lt1 : ∀ x ∈ p1, x.block < W.heap.size := by obtain ⟨m, hm⟩ := h1; exact DataW.trod_lt m _ _ _ hm
  have lt2 : ∀ x ∈ p2, x.block < W.heap.size := by obtain ⟨m, hm⟩ := h2; exact DataW.trod_lt m _ _ _ hm
  have hw := buildStops_row enc W base v0 d0 p0 (hval 0 3 v0 rfl rfl) h0 v1 d1 p1 (hval 1 3 v1 rfl rfl) h1 v2 d2 p2 (hval 2 22 v2 rfl rfl) h2
  clear hA0 hval0
  refine hw.mono fun e W' ⟨he, bel⟩ => ?_
  subst he
  exact ⟨_, rfl, _, _, _, [], _, [], hW', trodAll_mk1 (shut_bool Tryz.underlying4 _), (trodAll_cons_mk (Below.trod buildStops_laidOut (by kernel_rfl) (of_decide_eq_true (by kernel_rfl)) h0 bel lt0) (trodAll_cons_mk (Below.trod buildStops_laidOut (by kernel_rfl) (of_decide_eq_true (by kernel_rfl)) h1 bel lt1) (trodAll_cons_mk (Below.trod buildStops_laidOut (by kernel_rfl) (of_decide_eq_true (by kernel_rfl)) h2 bel lt2) trodAll_mk0))), rfl, Below.frame bel _, fun h => by cases h⟩

/-- The statement. -/
theorem buildStops_holds : Rows.BuildStopsSaid :=
  OpenClaim.holds_of_wide 3 Tryz.f3 rfl rfl rfl rfl rfl rfl rfl ⟨rfl, rfl, rfl, rfl, rfl⟩ rfl rfl rfl rfl rfl (by kernel_rfl) Tryz.func3 (by kernel_rfl)
    (of_decide_eq_true (by kernel_rfl)) (by unfold Func.isWrapper; first | (rw [if_pos (by decide +kernel)]; kernel_rfl) | (rw [if_neg (by decide +kernel)]; exact ⟨rfl, rfl⟩))
    (fun os started H enc _ => buildStops_lifted os started H enc)
end Go.Proofs.YtjnpcddbgfmpcaaGreat
