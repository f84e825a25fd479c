/-
  'KeyFinds': Find agrees with the reference. Conditions: none beyond the statement's own.
-/
import Derived.Test.YtnelhbkneokpiaaRows
import Derived.Test.YtnelhbkneokpiaaPF
import Derived.ProofKit
import Derived.OpenShut
import Derived.ShutString
import Derived.ChangeOld
import Derived.Below
import Derived.Lib.SmallJoins
import Derived.Deep.QuietTactic
import Derived.BigQuiet
namespace Go.Proofs.Ytnelhbkneokpiaa
open Go Go.ChangeShapes Go.WideShapes Go.ChangeAt Go.RowKit Go.Joins
open Go.ChangeMaps (open_string shut_string)
open Go.Deep
set_option linter.unusedVariables false
set_option linter.unusedSimpArgs false

set_option maxRecDepth 100000 in
set_option maxHeartbeats 4000000 in
theorem keyFinds_row {H : Type} (enc : TypeId × Value → H) (W : World) (base : Nat) (v0 : Value) (d0 : DataW H) (p0 : List MemPlace) (o0 : Value.okWide Try.prog W .any base 22 v0) (k0 : DataW.Trod enc Try.prog W 0 (fun _ => true) true 22 v0 d0 p0) (v1 : Value) (d1 : DataW H) (p1 : List MemPlace) (o1 : Value.okWide Try.prog W .any base 9 v1) (k1 : DataW.Trod enc Try.prog W 0 (fun _ => true) true 9 v1 d1 p1) :
    Calls Try.prog 4 #[v0, v1] W fun e w' => e = .returned (.bool true) ∧ Below W.heap.size W w' := by
  obtain ⟨l, hl⟩ := open_strs1 o0 k0
  obtain ⟨k, rfl, _, _, hk⟩ := open_string Try.underlying9 o1 k1
  obtain ⟨a, c, rfl⟩ := hl.form
  have HL := Lib.hid hl
  have hks : (shortS k 40).size ≤ 40 := by rw [shortS_size]; omega
  have HK := Lib.hid hk
  obtain ⟨x, hx⟩ : ∃ x, shortS k 40 = x := ⟨_, rfl⟩
  clear o0 o1 k0 k1 hk hl
  go_enter Try.func4, Try.ntmps4
  go_wp2_with fail
  refine (few07_any _ _ _ HL.out).mono ?_
  rintro r w1 ⟨v1, rfl, hs1, hg1⟩
  obtain ⟨a1, c1, rfl⟩ := hs1.form
  have hlen := few_len l
  obtain ⟨m, hm⟩ : ∃ m, textsS l 60 40 = m := ⟨_, rfl⟩
  have HM := Lib.hid hm
  rw [hm] at hs1 hlen ⊢
  have HS1 := Lib.hid hs1
  have HG1 := Lib.hid hg1
  clear hm hs1 hg1
  go_wp2_with fail
  have hsh := short_any' w1 k 40 HK.out (by omega)
  rw [hx] at hsh hks
  refine hsh.mono ?_
  rintro r w' ⟨rfl, rfl⟩
  clear hsh hx
  go_wp2_with fail
  go_loopw [6] (fun i wr => ∃ q : Nat, q ≤ m.length + 1 ∧ i = .int .i64 ((q : Int) - 1) ∧ Hid (Grew w1 wr)) (fun i _ => m.length + 1 - (intOf i + 1).toNat)
  case atStart => exact ⟨0, by omega, rfl, Grew.refl _⟩
  case round =>
    obtain ⟨q, hq, rfl, HW⟩ := hrel
    by_cases hlt : q ≤ m.length
    · have hst := HS1.out.grew HW.out
      cases q with
      | zero =>
        have e1 : ((0 : Nat) : Int) - 1 = -1 := rfl
        rw [e1]
        have hl0 : (-1 : Int) < m.length := by omega
        clear e1 hlt
        go_wp2_with fail
        refine (find_any m x _ wr hst).mono ?_
        rintro r w' ⟨rfl, rfl⟩
        go_wp2_with fail
        refine (rfind_any m x _ wr hst (by unfold lenok; omega)).mono ?_
        rintro r w' ⟨rfl, qd, rfl⟩
        obtain ⟨f1, f2⟩ := findK m x
        clear hst
        have HGN : Hid (Grew w1 (wr.drewN qd)) := HW.out.trans ⟨rfl, rfl, rfl, Nat.le_refl _, fun _ _ => rfl⟩
        go_wp2_with fail
        go_roundw
        case rel => exact ⟨1, by omega, by go_num, HGN⟩
        case measure => simp [intOf] <;> omega
      | succ q =>
        have e1 : ((q + 1 : Nat) : Int) - 1 = (q : Int) := by omega
        rw [e1]
        obtain ⟨y, hy⟩ : ∃ y, m[q]? = some y := ⟨_, List.getElem?_eq_getElem (by omega)⟩
        obtain ⟨_, _, ee, _, _, _, hcell⟩ := HS1.out
        cases ee
        obtain ⟨hyz, b1, o1, e2, hc⟩ := hcell q y hy
        subst e2
        have hlq : q < m.length := by omega
        have d1 := HW.out.cell hc
        have hli : (q : Int) < m.length := by omega
        clear hcell hc e1
        go_wp2_with fail
        refine (find_any m y _ wr hst).mono ?_
        rintro r w' ⟨rfl, rfl⟩
        go_wp2_with fail
        refine (rfind_any m y _ wr hst hyz).mono ?_
        rintro r w' ⟨rfl, qd, rfl⟩
        obtain ⟨f1, f2⟩ := findK m y
        clear hst
        have HGN : Hid (Grew w1 (wr.drewN qd)) := HW.out.trans ⟨rfl, rfl, rfl, Nat.le_refl _, fun _ _ => rfl⟩
        go_wp2_with fail
        go_roundw
        case rel => exact ⟨q + 2, by omega, by go_num, HGN⟩
        case measure => simp [intOf] <;> omega
    · have hq2 : q = m.length + 1 := by omega
      subst hq2
      have e1 : ((m.length + 1 : Nat) : Int) - 1 = (m.length : Int) := by omega
      rw [e1]
      go_wp2_with fail
      refine (few07_any _ _ _ ((HL.out.grew HG1.out).grew HW.out)).mono ?_
      rintro r w2 ⟨v2, rfl, hs2, hg2⟩
      obtain ⟨a2, c2, rfl⟩ := hs2.form
      rw [HM.out] at hs2 ⊢
      go_wp2_with fail
      refine (eqtexts_any m m _ _ w2 (HS1.out.grew (HW.out.trans hg2)) hs2).mono ?_
      rintro r w3 ⟨rfl, hg3⟩
      have HG3 := Lib.hid (HG1.out.trans (HW.out.trans (hg2.trans hg3)))
      rw [show decide (m = m) = true by simp]
      clear hs2 hg2 hg3
      go_wp2_with fail
      refine (works07_any w3).mono ?_
      rintro r w4 ⟨rfl, hg4⟩
      go_wp2_with fail
      go_ret
      exact ⟨rfl, HG3.out.trans hg4⟩

theorem keyFinds_own : ownKnob Try.prog.godebug = none := by kernel_rfl
theorem keyFinds_laidOut : laidOutB Try.prog = true := by kernel_rfl

set_option maxRecDepth 100000 in
theorem keyFinds_lifted (os : Os) (started : os.Started) (H : Type) (enc : TypeId × Value → H) :
    ReturnsInHanded {} Try.checked os 4 .any (Rows.keyFindsSpec.pre6 enc Try.prog Try.f4 Rows.keyFindsRow.domain false) (Rows.keyFindsSpec.post enc Try.prog Try.f4 false true false false) := by
  refine returnsInHanded_of_change (C := Try.checked) keyFinds_own started (by kernel_rfl) Try.func4
    (ChangeSpec.witness6 (enc := enc) (C := Try.checked) false ⟨#[], #[.slice none 0 0, .string ⟨#[]⟩], []⟩ 8 (by kernel_rfl) (by kernel_rfl) (by kernel_rfl) (by kernel_rfl)) ?_
  intro W base args ds gs before hval0 hW hcnd _
  have hval : ∀ (j : Nat) t v, Try.f4.params[j]? = some t → args[j]? = some v → Value.okWide Try.prog W .any base t v := hval0
  have hW' := hW
  obtain ⟨p, q, hA0, hV, rfl, hfz, hnd⟩ := hW
  have hA : DataW.TrodAll enc Try.prog W 0 (fun _ => true) true Try.f4.params.toList args.toList ds p := hA0
  rw [Try.params4] at hA hval
  obtain ⟨v0, vs0, d0, ds0, p0, q0, hargs, rfl, rfl, h0, r0⟩ := trodAll_cons hA
  obtain ⟨v1, vs1, d1, ds1, p1, q1, rfl, rfl, rfl, h1, r1⟩ := trodAll_cons r0
  obtain ⟨rfl, rfl, rfl⟩ := trodAll_nil r1
  obtain rfl : args = #[v0, v1] := by cases args; simp_all
  obtain ⟨rfl, rfl⟩ := trodVars_none hV
  have lt0 : ∀ x ∈ p0, x.block < W.heap.size := by obtain ⟨m, hm⟩ := h0; exact DataW.trod_lt m _ _ _ hm
  have lt1 : ∀ x ∈ p1, x.block < W.heap.size := by obtain ⟨m, hm⟩ := h1; exact DataW.trod_lt m _ _ _ hm
  have hw := keyFinds_row enc W base v0 d0 p0 (hval 0 22 v0 rfl rfl) h0 v1 d1 p1 (hval 1 9 v1 rfl rfl) h1
  clear hA0 hval0
  refine hw.mono fun e W' ⟨he, bel⟩ => ?_
  subst he
  exact ⟨_, rfl, _, _, _, [], _, [], hW', trodAll_mk1 (shut_bool Try.underlying4 _), (trodAll_cons_mk (Below.trod keyFinds_laidOut (by kernel_rfl) (of_decide_eq_true (by kernel_rfl)) h0 bel lt0) (trodAll_cons_mk (Below.trod keyFinds_laidOut (by kernel_rfl) (of_decide_eq_true (by kernel_rfl)) h1 bel lt1) trodAll_mk0)), rfl, Below.frame bel _, fun h => by cases h⟩

/-- The statement. -/
theorem keyFinds_holds : Rows.KeyFindsSaid :=
  OpenClaim.holds_of_wide 4 Try.f4 rfl rfl rfl rfl rfl rfl rfl ⟨rfl, rfl, rfl, rfl, rfl⟩ rfl rfl rfl rfl rfl (by kernel_rfl) Try.func4 (by kernel_rfl)
    (of_decide_eq_true (by kernel_rfl)) (by unfold Func.isWrapper; first | (rw [if_pos (by decide +kernel)]; kernel_rfl) | (rw [if_neg (by decide +kernel)]; exact ⟨rfl, rfl⟩))
    (fun os started H enc _ => keyFinds_lifted os started H enc)
end Go.Proofs.Ytnelhbkneokpiaa
