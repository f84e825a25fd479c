/-
  'KeyOrders': Check, Less and Order agree with the reference. Conditions: none beyond the statement's own.
-/
import Derived.Test.YtnelhbkneokpiaaRows
import Derived.Test.YtnelhbkneokpiaaPF
import Derived.Test.YtnelhbkneokpiaaPC
import Derived.ProofKit
import Derived.OpenShut
import Derived.ShutString
import Derived.ChangeOld
import Derived.Below
import Derived.Lib.SmallJoins
import Derived.Deep.QuietTactic
import Derived.BigQuiet
namespace Go.Proofs.Ytnelhbkneokpiaa
open Go Go.ChangeShapes Go.WideShapes Go.ChangeAt Go.RowKit Go.Joins
open Go.ChangeMaps (open_string shut_string)
open Go.Deep
set_option linter.unusedVariables false
set_option linter.unusedSimpArgs false

set_option maxRecDepth 100000 in
set_option maxHeartbeats 4000000 in
theorem keyOrders_row {H : Type} (enc : TypeId × Value → H) (W : World) (base : Nat) (v0 : Value) (d0 : DataW H) (p0 : List MemPlace) (o0 : Value.okWide Try.prog W .any base 9 v0) (k0 : DataW.Trod enc Try.prog W 0 (fun _ => true) true 9 v0 d0 p0) (v1 : Value) (d1 : DataW H) (p1 : List MemPlace) (o1 : Value.okWide Try.prog W .any base 9 v1) (k1 : DataW.Trod enc Try.prog W 0 (fun _ => true) true 9 v1 d1 p1) (v2 : Value) (d2 : DataW H) (p2 : List MemPlace) (o2 : Value.okWide Try.prog W .any base 22 v2) (k2 : DataW.Trod enc Try.prog W 0 (fun _ => true) true 22 v2 d2 p2) :
    Calls Try.prog 3 #[v0, v1, v2] W fun e w' => e = .returned (.bool true) ∧ Below W.heap.size W w' := by
  obtain ⟨a, rfl, _, _, ha⟩ := open_string Try.underlying9 o0 k0
  obtain ⟨b, rfl, _, _, hb⟩ := open_string Try.underlying9 o1 k1
  obtain ⟨l, hl⟩ := open_strs1 o2 k2
  obtain ⟨la, lc, rfl⟩ := hl.form
  have H1 := Lib.hid (short_any' W a 200 ha (by omega))
  have H2 := Lib.hid (short_any' W b 200 hb (by omega))
  have HZX : Hid (lenok (shortS a 200).size ∧ lenok (shortS b 200).size) := ⟨lenok_short (by omega), lenok_short (by omega)⟩
  generalize shortS a 200 = x at *
  generalize shortS b 200 = y at *
  have HL := Lib.hid hl
  clear o0 o1 o2 k0 k1 k2 ha hb hl
  go_enter Try.func3, Try.ntmps3
  go_wp2_with fail
  refine H1.out.mono ?_
  rintro r w' ⟨rfl, rfl⟩
  go_wp2_with fail
  refine H2.out.mono ?_
  rintro r w' ⟨rfl, rfl⟩
  clear H1 H2
  go_wp2_with fail
  refine (few07_any _ _ _ HL.out).mono ?_
  rintro r w1 ⟨v1, rfl, hs1, hg1⟩
  obtain ⟨a1, c1, rfl⟩ := hs1.form
  have hlen := few_len l
  obtain ⟨m, hm⟩ : ∃ m, textsS l 60 40 = m := ⟨_, rfl⟩
  have HM := Lib.hid hm
  rw [hm] at hs1 hlen ⊢
  have HS1 := Lib.hid hs1
  have HG1 := Lib.hid hg1
  clear hm hs1 hg1
  go_wp2_with fail
  refine (order_any m (by omega) _ w1 HS1.out).mono ?_
  intro r w2 hout
  obtain ⟨hg2, v2, rfl, hr2⟩ := order_ord (by omega) hout
  have hr2' := hr2
  obtain ⟨a2, c2, rfl, _⟩ := hr2'
  obtain ⟨P1, hP1⟩ : ∃ P1, (ordK m).1 = P1 := ⟨_, rfl⟩
  obtain ⟨P2, hP2⟩ : ∃ P2, (ordK m).2 = P2 := ⟨_, rfl⟩
  rw [hP1] at hr2
  rw [hP1, hP2]
  have HP := Lib.hid (And.intro hP1 hP2)
  have HR2 := Lib.hid hr2
  have HG2 := Lib.hid (HG1.out.trans hg2)
  have HS2 := Lib.hid (HS1.out.grew hg2)
  clear hout hg2 hr2 hP1 hP2
  go_wp2_with fail
  refine (rorder_any m (by omega) _ w2 HS2.out).mono ?_
  rintro r w3 ⟨hg3, v3, rfl, hr3⟩
  rw [HP.out.1] at hr3
  rw [HP.out.2]
  have HR3 := Lib.hid hr3
  obtain ⟨a3, c3, e3, _⟩ := hr3
  subst e3
  have HG3 := Lib.hid (HG2.out.trans hg3)
  have HS3 := Lib.hid (HS2.out.grew hg3)
  have HR23 := Lib.hid (HR2.out.grew hg3)
  have HC1 := Lib.hid (kcheck_any x)
  have HC2 := Lib.hid (fun w => rcheck_any x w HZX.out.1)
  have HC3 := Lib.hid (kless_any x y)
  have HC4 := Lib.hid (fun w => rless_any x y w HZX.out.1 HZX.out.2)
  generalize keyE x = kx at *
  generalize ltS x y = bl at *
  clear hg3
  go_wp2_with fail
  refine (HC1.out _).mono ?_
  rintro r w' ⟨rfl, e⟩
  rw [← e]
  clear e
  go_wp2_with fail
  refine (HC2.out _).mono ?_
  rintro r w' ⟨rfl, e⟩
  rw [e]
  clear e
  go_wp2_with fail
  refine (HC3.out _).mono ?_
  rintro r w' ⟨rfl, e⟩
  rw [← e]
  clear e
  go_wp2_with fail
  refine (HC4.out _).mono ?_
  rintro r w' ⟨rfl, qd, e⟩
  rw [e]
  clear e
  have hgd : Grew w3 (w3.drewN qd) := (Grew.refl w3).drewN qd
  have HR2D := Lib.hid (HR23.out.grew hgd)
  have HR3D := Lib.hid (HR3.out.grew hgd)
  have HSD := Lib.hid (HS3.out.grew hgd)
  have HGD := Lib.hid (HG3.out.trans hgd)
  clear hgd
  generalize w3.drewN qd = w4 at *
  go_wp2_with fail
  refine (eqints_any P1 P1 _ _ w4 HR2D.out HR3D.out).mono ?_
  rintro r w5 ⟨rfl, hg5⟩
  rw [show decide (P1 = P1) = true by simp]
  have HG5 := Lib.hid (HGD.out.trans hg5)
  have HS5 := Lib.hid (HSD.out.grew hg5)
  clear hg5
  go_wp2_with fail
  refine (few07_any _ _ _ (HL.out.grew HG5.out)).mono ?_
  rintro r w6 ⟨v6, rfl, hs6, hg6⟩
  obtain ⟨a6, c6, rfl⟩ := hs6.form
  rw [HM.out] at hs6 ⊢
  have HG6 := Lib.hid (HG5.out.trans hg6)
  have HS6 := Lib.hid (And.intro (HS5.out.grew hg6) hs6)
  clear hg6 hs6
  go_wp2_with fail
  refine (eqtexts_any m m _ _ w6 HS6.out.1 HS6.out.2).mono ?_
  rintro r w7 ⟨rfl, hg7⟩
  rw [show decide (m = m) = true by simp]
  have HG7 := Lib.hid (HG6.out.trans hg7)
  clear hg7
  go_wp2_with fail
  refine (works07_any w7).mono ?_
  rintro r w8 ⟨rfl, hg8⟩
  go_wp2_with fail
  go_ret
  exact ⟨rfl, HG7.out.trans hg8⟩

theorem keyOrders_own : ownKnob Try.prog.godebug = none := by kernel_rfl
theorem keyOrders_laidOut : laidOutB Try.prog = true := by kernel_rfl

set_option maxRecDepth 100000 in
theorem keyOrders_lifted (os : Os) (started : os.Started) (H : Type) (enc : TypeId × Value → H) :
    ReturnsInHanded {} Try.checked os 3 .any (Rows.keyOrdersSpec.pre6 enc Try.prog Try.f3 Rows.keyOrdersRow.domain false) (Rows.keyOrdersSpec.post enc Try.prog Try.f3 false true false false) := by
  refine returnsInHanded_of_change (C := Try.checked) keyOrders_own started (by kernel_rfl) Try.func3
    (ChangeSpec.witness6 (enc := enc) (C := Try.checked) false ⟨#[], #[.string ⟨#[]⟩, .string ⟨#[]⟩, .slice none 0 0], []⟩ 8 (by kernel_rfl) (by kernel_rfl) (by kernel_rfl) (by kernel_rfl)) ?_
  intro W base args ds gs before hval0 hW hcnd _
  have hval : ∀ (j : Nat) t v, Try.f3.params[j]? = some t → args[j]? = some v → Value.okWide Try.prog W .any base t v := hval0
  have hW' := hW
  obtain ⟨p, q, hA0, hV, rfl, hfz, hnd⟩ := hW
  have hA : DataW.TrodAll enc Try.prog W 0 (fun _ => true) true Try.f3.params.toList args.toList ds p := hA0
  rw [Try.params3] at hA hval
  obtain ⟨v0, vs0, d0, ds0, p0, q0, hargs, rfl, rfl, h0, r0⟩ := trodAll_cons hA
  obtain ⟨v1, vs1, d1, ds1, p1, q1, rfl, rfl, rfl, h1, r1⟩ := trodAll_cons r0
  obtain ⟨v2, vs2, d2, ds2, p2, q2, rfl, rfl, rfl, h2, r2⟩ := trodAll_cons r1
  obtain ⟨rfl, rfl, rfl⟩ := trodAll_nil r2
  obtain rfl : args = #[v0, v1, v2] := by cases args; simp_all
  obtain ⟨rfl, rfl⟩ := trodVars_none hV
  have lt0 : ∀ x ∈ p0, x.block < W.heap.size := by obtain ⟨m, hm⟩ := h0; exact DataW.trod_lt m _ _ _ hm
  have lt1 : ∀ x ∈ p1, x.block < W.heap.size := by obtain ⟨m, hm⟩ := h1; exact DataW.trod_lt m _ _ _ hm
  have lt2 : ∀ x ∈ p2, x.block < W.heap.size := by obtain ⟨m, hm⟩ := h2; exact DataW.trod_lt m _ _ _ hm
  have hw := keyOrders_row enc W base v0 d0 p0 (hval 0 9 v0 rfl rfl) h0 v1 d1 p1 (hval 1 9 v1 rfl rfl) h1 v2 d2 p2 (hval 2 22 v2 rfl rfl) h2
  clear hA0 hval0
  refine hw.mono fun e W' ⟨he, bel⟩ => ?_
  subst he
  exact ⟨_, rfl, _, _, _, [], _, [], hW', trodAll_mk1 (shut_bool Try.underlying4 _), (trodAll_cons_mk (Below.trod keyOrders_laidOut (by kernel_rfl) (of_decide_eq_true (by kernel_rfl)) h0 bel lt0) (trodAll_cons_mk (Below.trod keyOrders_laidOut (by kernel_rfl) (of_decide_eq_true (by kernel_rfl)) h1 bel lt1) (trodAll_cons_mk (Below.trod keyOrders_laidOut (by kernel_rfl) (of_decide_eq_true (by kernel_rfl)) h2 bel lt2) trodAll_mk0))), rfl, Below.frame bel _, fun h => by cases h⟩

/-- The statement. -/
theorem keyOrders_holds : Rows.KeyOrdersSaid :=
  OpenClaim.holds_of_wide 3 Try.f3 rfl rfl rfl rfl rfl rfl rfl ⟨rfl, rfl, rfl, rfl, rfl⟩ rfl rfl rfl rfl rfl (by kernel_rfl) Try.func3 (by kernel_rfl)
    (of_decide_eq_true (by kernel_rfl)) (by unfold Func.isWrapper; first | (rw [if_pos (by decide +kernel)]; kernel_rfl) | (rw [if_neg (by decide +kernel)]; exact ⟨rfl, rfl⟩))
    (fun os started H enc _ => keyOrders_lifted os started H enc)
end Go.Proofs.Ytnelhbkneokpiaa
