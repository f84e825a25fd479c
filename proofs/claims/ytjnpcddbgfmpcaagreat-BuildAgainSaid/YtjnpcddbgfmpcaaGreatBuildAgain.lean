/-
  BuildAgain: a string put again under the flag adds an element and a tag alone.
-/
import Derived.Test.YtjnpcddbgfmpcaaGreatRows
import Derived.Test.YtjnpcddbgfmpcaaGreatPBG
import Derived.Test.YtjnpcddbgfmpcaaGreatPBM
import Derived.ProofKit
import Derived.OpenShut
import Derived.ShutString
import Derived.ChangeOld
import Derived.Below
import Derived.Lib.SmallJoins
namespace Go.Proofs.YtjnpcddbgfmpcaaGreat
open Go Go.ChangeShapes Go.WideShapes Go.ChangeAt Go.RowKit Go.Joins
open Go.ChangeMaps (open_string shut_string)
open Go.Deep
open Go.Proofs.YtjnpcddbgfmpcaaGreat.Ft (V3 vV okV ValsAt inlineB legalB packF codeF typedF allF)
set_option linter.unusedVariables false
set_option linter.unusedSimpArgs false

/-- The same string n times. -/
def strN (most : Int) (sh : Bool) (k : ByteArray) : Nat → BS
  | 0 => BS.new
  | n + 1 => (strN most sh k n).str most sh k
theorem strN_good (most : Int) (sh : Bool) (k : ByteArray) : ∀ n, (strN most sh k n).Good
  | 0 => BS.Good.new
  | n + 1 => BS.Good.str (strN_good most sh k n)
theorem on22 : onF 2 2 = true := by decide
theorem on02 : onF 0 2 = false := by decide
set_option maxRecDepth 100000 in
set_option maxHeartbeats 4000000 in
theorem buildAgain_any (s : ByteArray) (w : World) (hs : s.size ≤ 9223372036854775807) :
    Calls Tryz.prog 4 #[.string s] w fun r w' => r = .returned (.bool true) ∧ Below w.heap.size w w' := by
  have H1 := Lib.hid (short_any s 60 w (by decide) hs)
  have hx : (s.extract 0 (min s.size (60 : Int).toNat)).size ≤ 60 := by rw [ByteArray.size_extract]; omega
  generalize s.extract 0 (min s.size (60 : Int).toNat) = k at *
  go_enter Tryz.func4, Tryz.ntmps4
  go_wp2_with fail
  refine H1.out.mono ?_
  rintro r u0 ⟨rfl, rfl⟩
  clear H1
  go_wp2_with fail
  refine ((Lv.nil u0).new 2 1000).mono ?_
  rintro r u1 ⟨q1, rfl, hl⟩
  have HL1 := Lib.hid hl
  clear hl
  go_wp2_with fail
  refine (HL1.out.new 0 1000).mono ?_
  rintro r u2 ⟨q2, rfl, hl⟩
  rw [show roomOf 1000 = 1000 from rfl] at hl
  have HL2 : Hid (Lv u0 [⟨q1, 1000, 2, strN 1000 true k 0⟩, ⟨q2, 1000, 0, strN 1000 false k 0⟩] [] u2) := hl
  clear hl HL1
  go_wp2_with fail
  go_loopw [5] (fun i wr => ∃ n : Nat, n ≤ 3 ∧ i = .int .i64 n ∧ Hid (Lv u0 [⟨q1, 1000, 2, strN 1000 true k n⟩, ⟨q2, 1000, 0, strN 1000 false k n⟩] [] wr)) (fun i _ => 3 - (intOf i).toNat)
  case atStart => exact ⟨0, Nat.zero_le _, rfl, HL2⟩
  case round =>
    obtain ⟨n, hn, rfl, HW⟩ := hrel
    by_cases hlt : n < 3
    · go_wp2_with fail
      refine (HW.out.call (P := fun r => r = .returned (.tuple #[])) (x' := strN 1000 true k (n + 1)) 0 rfl fun κ hb _ => ?_).mono ?_
      · have h := bstr_any k (by omega) (strN_good 1000 true k n) hb
        rw [on22] at h
        exact h
      rintro r u3 ⟨rfl, hl⟩
      have HL3 : Hid (Lv u0 [⟨q1, 1000, 2, strN 1000 true k (n + 1)⟩, ⟨q2, 1000, 0, strN 1000 false k n⟩] [] u3) := hl
      clear hl HW
      go_wp2_with fail
      refine (HL3.out.call (P := fun r => r = .returned (.tuple #[])) (x' := strN 1000 false k (n + 1)) 1 rfl fun κ hb _ => ?_).mono ?_
      · have h := bstr_any k (by omega) (strN_good 1000 false k n) hb
        rw [on02] at h
        exact h
      rintro r u4 ⟨rfl, hl⟩
      have HL4 : Hid (Lv u0 [⟨q1, 1000, 2, strN 1000 true k (n + 1)⟩, ⟨q2, 1000, 0, strN 1000 false k (n + 1)⟩] [] u4) := hl
      clear hl HL3
      go_wp2_with fail
      go_roundw
      case rel => exact ⟨n + 1, by omega, by go_num, HL4⟩
      case measure => simp [intOf]; omega
    · have en : n = 3 := by omega
      subst en
      go_wp2_with fail
      refine (HW.out.call (P := fun r => r = .returned (.tuple #[])) (x' := (strN 1000 true k 3).endVec 1000 0) 0 rfl fun κ hb _ => bendvec_any 0 (strN_good 1000 true k 3) hb).mono ?_
      rintro r u5 ⟨rfl, hl⟩
      have HL5 : Hid (Lv u0 [⟨q1, 1000, 2, (strN 1000 true k 3).endVec 1000 0⟩, ⟨q2, 1000, 0, strN 1000 false k 3⟩] [] u5) := hl
      clear hl HW
      go_wp2_with fail
      refine (HL5.out.call (P := fun r => r = .returned (.tuple #[])) (x' := (strN 1000 false k 3).endVec 1000 0) 1 rfl fun κ hb _ => bendvec_any 0 (strN_good 1000 false k 3) hb).mono ?_
      rintro r u6 ⟨rfl, hl⟩
      have HL6 : Hid (Lv u0 [⟨q1, 1000, 2, (strN 1000 true k 3).endVec 1000 0⟩, ⟨q2, 1000, 0, (strN 1000 false k 3).endVec 1000 0⟩] [] u6) := hl
      clear hl HL5
      obtain ⟨d, d', hd, hd', hdl, hdl'⟩ := again_docs k hx
      have HD := Lib.hid (show (((strN 1000 true k 3).endVec 1000 0).finish 1000).1 = (d, 0) from hd)
      have HD' := Lib.hid (show (((strN 1000 false k 3).endVec 1000 0).finish 1000).1 = (d', 0) from hd')
      clear hd hd' HL2
      generalize (strN 1000 true k 3).endVec 1000 0 = X at *
      generalize (strN 1000 false k 3).endVec 1000 0 = Y at *
      go_wp2_with fail
      refine (HL6.out.fin 0 rfl).mono ?_
      dsimp only
      rw [HD.out]
      rintro r u7 ⟨a, c, Kp, rfl, hl, _, _⟩
      have HL7 : Hid (Lv u0 [⟨q1, 1000, 2, (X.finish 1000).2⟩, ⟨q2, 1000, 0, Y⟩] Kp u7) := hl
      clear hl HL6
      go_wp2_with fail
      refine (HL7.out.fin 1 rfl).mono ?_
      dsimp only
      rw [HD'.out]
      rintro r u8 ⟨a', c', Kp', rfl, hl, _, _⟩
      have HL8 := Lib.hid hl.below
      clear hl HL7 HD HD'
      generalize d.length = m at *
      generalize d'.length = m' at *
      go_wp2_with fail
      refine (works19_any _).mono ?_
      rintro r u9 ⟨rfl, hb⟩
      have HB := Lib.hid hb
      clear hb
      go_wp2
      go_ret
      exact ⟨rfl, Below.trans HL8.out (Below.mono HB.out HL8.out.size)⟩

set_option maxRecDepth 100000 in
set_option maxHeartbeats 4000000 in
theorem buildAgain_row {H : Type} (enc : TypeId × Value → H) (W : World) (base : Nat) (v0 : Value) (d0 : DataW H) (p0 : List MemPlace) (o0 : Value.okWide Tryz.prog W .any base 9 v0) (k0 : DataW.Trod enc Tryz.prog W 0 (fun _ => true) true 9 v0 d0 p0) :
    Calls Tryz.prog 4 #[v0] W fun e w' => e = .returned (.bool true) ∧ Below W.heap.size W w' := by
  obtain ⟨st, rfl, _, _, hst⟩ := open_string Tryz.underlying9 o0 k0
  exact buildAgain_any st W (by unfold maxLen at hst; exact hst)

theorem buildAgain_own : ownKnob Tryz.prog.godebug = none := by kernel_rfl
theorem buildAgain_laidOut : laidOutB Tryz.prog = true := by kernel_rfl

set_option maxRecDepth 100000 in
theorem buildAgain_lifted (os : Os) (started : os.Started) (H : Type) (enc : TypeId × Value → H) :
    ReturnsInHanded {} Tryz.checked os 4 .any (Rows.buildAgainSpec.pre6 enc Tryz.prog Tryz.f4 Rows.buildAgainRow.domain false) (Rows.buildAgainSpec.post enc Tryz.prog Tryz.f4 false true false false) := by
  refine returnsInHanded_of_change (C := Tryz.checked) buildAgain_own started (by kernel_rfl) Tryz.func4
    (ChangeSpec.witness6 (enc := enc) (C := Tryz.checked) false ⟨#[], #[.string ⟨#[]⟩], []⟩ 8 (by kernel_rfl) (by kernel_rfl) (by kernel_rfl) (by kernel_rfl)) ?_
  intro W base args ds gs before hval0 hW hcnd _
  have hval : ∀ (j : Nat) t v, Tryz.f4.params[j]? = some t → args[j]? = some v → Value.okWide Tryz.prog W .any base t v := hval0
  have hW' := hW
  obtain ⟨p, q, hA0, hV, rfl, hfz, hnd⟩ := hW
  have hA : DataW.TrodAll enc Tryz.prog W 0 (fun _ => true) true Tryz.f4.params.toList args.toList ds p := hA0
  rw [Tryz.params4] at hA hval
  obtain ⟨v0, vs0, d0, ds0, p0, q0, hargs, rfl, rfl, h0, r0⟩ := trodAll_cons hA
  obtain ⟨rfl, rfl, rfl⟩ := trodAll_nil r0
  obtain rfl : args = #[v0] := by cases args; simp_all
  obtain ⟨rfl, rfl⟩ := trodVars_none hV
  have lt0 : ∀ x ∈ p0, x.block < W.heap.size := by obtain ⟨m, hm⟩ := h0; exact DataW.trod_lt m _ _ _ hm
  have hw := buildAgain_row enc W base v0 d0 p0 (hval 0 9 v0 rfl rfl) h0
  clear hA0 hval0
  refine hw.mono fun e W' ⟨he, bel⟩ => ?_
  subst he
  exact ⟨_, rfl, _, _, _, [], _, [], hW', trodAll_mk1 (shut_bool Tryz.underlying4 _), (trodAll_cons_mk (Below.trod buildAgain_laidOut (by kernel_rfl) (of_decide_eq_true (by kernel_rfl)) h0 bel lt0) trodAll_mk0), rfl, Below.frame bel _, fun h => by cases h⟩

/-- The statement. -/
theorem buildAgain_holds : Rows.BuildAgainSaid :=
  OpenClaim.holds_of_wide 4 Tryz.f4 rfl rfl rfl rfl rfl rfl rfl ⟨rfl, rfl, rfl, rfl, rfl⟩ rfl rfl rfl rfl rfl (by kernel_rfl) Tryz.func4 (by kernel_rfl)
    (of_decide_eq_true (by kernel_rfl)) (by unfold Func.isWrapper; first | (rw [if_pos (by decide +kernel)]; kernel_rfl) | (rw [if_neg (by decide +kernel)]; exact ⟨rfl, rfl⟩))
    (fun os started H enc _ => buildAgain_lifted os started H enc)
end Go.Proofs.YtjnpcddbgfmpcaaGreat
