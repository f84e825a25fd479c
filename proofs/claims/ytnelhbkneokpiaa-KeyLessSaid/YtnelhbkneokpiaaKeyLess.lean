/-
  'KeyLess': Less is a strict total order. Conditions: none beyond the statement's own.
-/
import Derived.Test.YtnelhbkneokpiaaRows
import Derived.Test.YtnelhbkneokpiaaPF
import Derived.ProofKit
import Derived.OpenShut
import Derived.ShutString
import Derived.ChangeOld
import Derived.Below
import Derived.Lib.SmallJoins
import Derived.Deep.QuietTactic
import Derived.BigQuiet
namespace Go.Proofs.Ytnelhbkneokpiaa
open Go Go.ChangeShapes Go.WideShapes Go.ChangeAt Go.RowKit Go.Joins
open Go.ChangeMaps (open_string shut_string)
open Go.Deep
set_option linter.unusedVariables false
set_option linter.unusedSimpArgs false

/-- A common front does not matter. -/
theorem cmpB_front : ∀ (x a b : List UInt8), cmpB (x ++ a) (x ++ b) = cmpB a b
  | [], _, _ => rfl
  | c :: x, a, b => by
    show (if c < c then (-1 : Int) else if c < c then 1 else cmpB (x ++ a) (x ++ b)) = _
    rw [if_neg (by simp), if_neg (by simp)]
    exact cmpB_front x a b
theorem ltS_front (x a b : ByteArray) : ltS (x ++ a) (x ++ b) = ltS a b := by
  unfold ltS
  rw [show (x ++ a).data.toList = x.data.toList ++ a.data.toList by simp [ByteArray.data_append], show (x ++ b).data.toList = x.data.toList ++ b.data.toList by simp [ByteArray.data_append], cmpB_front]
theorem ltS_nil (b : ByteArray) : ltS ⟨#[]⟩ b = decide (b ≠ ⟨#[]⟩) := by
  obtain ⟨⟨l⟩⟩ := b
  cases l with
  | nil => simp [ltS, cmpB_self]
  | cons c r => simp [ltS, cmpB, Lib.compareBytes]
theorem ltS_to_nil (b : ByteArray) : ltS b ⟨#[]⟩ = false := by
  obtain ⟨⟨l⟩⟩ := b
  cases l with
  | nil => simp [ltS, cmpB_self]
  | cons c r => simp [ltS, cmpB, Lib.compareBytes]
theorem ba_app_nil (x : ByteArray) : x ++ ⟨#[]⟩ = x := by
  apply bytes_inj; simp [ByteArray.data_append]
set_option maxRecDepth 100000 in
set_option maxHeartbeats 4000000 in
theorem keyLess_row {H : Type} (enc : TypeId × Value → H) (W : World) (base : Nat) (v0 : Value) (d0 : DataW H) (p0 : List MemPlace) (o0 : Value.okWide Try.prog W .any base 9 v0) (k0 : DataW.Trod enc Try.prog W 0 (fun _ => true) true 9 v0 d0 p0) (v1 : Value) (d1 : DataW H) (p1 : List MemPlace) (o1 : Value.okWide Try.prog W .any base 9 v1) (k1 : DataW.Trod enc Try.prog W 0 (fun _ => true) true 9 v1 d1 p1) (v2 : Value) (d2 : DataW H) (p2 : List MemPlace) (o2 : Value.okWide Try.prog W .any base 9 v2) (k2 : DataW.Trod enc Try.prog W 0 (fun _ => true) true 9 v2 d2 p2) :
    Calls Try.prog 6 #[v0, v1, v2] W fun e w' => e = .returned (.bool true) ∧ Below W.heap.size W w' := by
  obtain ⟨a, rfl, _, _, ha⟩ := open_string Try.underlying9 o0 k0
  obtain ⟨b, rfl, _, _, hb⟩ := open_string Try.underlying9 o1 k1
  obtain ⟨c, rfl, _, _, hc⟩ := open_string Try.underlying9 o2 k2
  have H1 := Lib.hid (short_any' W a 200 ha (by omega))
  have H2 := Lib.hid (short_any' W b 200 hb (by omega))
  have H3 := Lib.hid (short_any' W c 200 hc (by omega))
  have hx : (shortS a 200).size ≤ 200 := by rw [shortS_size]; omega
  have hy : (shortS b 200).size ≤ 200 := by rw [shortS_size]; omega
  have hz : (shortS c 200).size ≤ 200 := by rw [shortS_size]; omega
  generalize shortS a 200 = x at *
  generalize shortS b 200 = y at *
  generalize shortS c 200 = z at *
  clear o0 o1 o2 k0 k1 k2 ha hb hc
  go_enter Try.func6, Try.ntmps6
  go_wp2_with fail
  refine H1.out.mono ?_
  rintro r w' ⟨rfl, rfl⟩
  go_wp2_with fail
  refine H2.out.mono ?_
  rintro r w' ⟨rfl, rfl⟩
  go_wp2_with fail
  refine H3.out.mono ?_
  rintro r w' ⟨rfl, rfl⟩
  clear H1 H2 H3
  have hxx : ltS x x = false := ltS_irrefl x
  have g2 : ltS (x ++ y) x = false := by
    have := ltS_front x y ⟨#[]⟩
    rw [ba_app_nil] at this
    rw [this]; exact ltS_to_nil y
  have g1 : ltS x (x ++ y) = !y.toList.isEmpty := by
    have := ltS_front x ⟨#[]⟩ y
    rw [ba_app_nil] at this
    rw [this, ltS_nil, ByteArray.toList_eq]
    obtain ⟨⟨l⟩⟩ := y
    cases l <;> simp
  have g3 : ltS (x ++ y) (x ++ z) = ltS y z := ltS_front x y z
  have HW := Lib.hid (works07_any W)
  by_cases e : x = y
  · have ht : (x.toList == y.toList) = true := by rw [str_eq]; simpa using e
    have hxy : ltS x y = false := by rw [← e]; exact hxx
    clear e
    go_wp2_with (go_at_call 16; refine (kless_any _ _ _).mono ?_; rintro r w' ⟨rfl, rfl⟩)
    refine HW.out.mono ?_
    rintro r w2 ⟨rfl, hg⟩
    go_wp2_with fail
    go_ret
    exact ⟨rfl, hg⟩
  have ht : (x.toList == y.toList) = false := by rw [str_eq]; simpa using e
  cases hxy : ltS x y with
  | false =>
    have hyx : ltS y x = true := by
      cases h : ltS y x with
      | true => rfl
      | false => exact absurd (ltS_total hxy h) e
    clear e
    go_wp2_with (go_at_call 16; refine (kless_any _ _ _).mono ?_; rintro r w' ⟨rfl, rfl⟩)
    refine HW.out.mono ?_
    rintro r w2 ⟨rfl, hg⟩
    go_wp2_with fail
    go_ret
    exact ⟨rfl, hg⟩
  | true =>
    have hyx : ltS y x = false := by
      cases h : ltS y x with
      | false => rfl
      | true => have := ltS_trans hxy h; rw [hxx] at this; cases this
    clear e
    cases hyz : ltS y z with
    | false =>
      rw [hyz] at g3
      go_wp2_with (go_at_call 16; refine (kless_any _ _ _).mono ?_; rintro r w' ⟨rfl, rfl⟩)
      refine HW.out.mono ?_
      rintro r w2 ⟨rfl, hg⟩
      go_wp2_with fail
      go_ret
      exact ⟨rfl, hg⟩
    | true =>
      rw [hyz] at g3
      have hxz : ltS x z = true := ltS_trans hxy hyz
      go_wp2_with (go_at_call 16; refine (kless_any _ _ _).mono ?_; rintro r w' ⟨rfl, rfl⟩)
      refine HW.out.mono ?_
      rintro r w2 ⟨rfl, hg⟩
      go_wp2_with fail
      go_ret
      exact ⟨rfl, hg⟩
theorem keyLess_own : ownKnob Try.prog.godebug = none := by kernel_rfl
theorem keyLess_laidOut : laidOutB Try.prog = true := by kernel_rfl

set_option maxRecDepth 100000 in
theorem keyLess_lifted (os : Os) (started : os.Started) (H : Type) (enc : TypeId × Value → H) :
    ReturnsInHanded {} Try.checked os 6 .any (Rows.keyLessSpec.pre6 enc Try.prog Try.f6 Rows.keyLessRow.domain false) (Rows.keyLessSpec.post enc Try.prog Try.f6 false true false false) := by
  refine returnsInHanded_of_change (C := Try.checked) keyLess_own started (by kernel_rfl) Try.func6
    (ChangeSpec.witness6 (enc := enc) (C := Try.checked) false ⟨#[], #[.string ⟨#[]⟩, .string ⟨#[]⟩, .string ⟨#[]⟩], []⟩ 8 (by kernel_rfl) (by kernel_rfl) (by kernel_rfl) (by kernel_rfl)) ?_
  intro W base args ds gs before hval0 hW hcnd _
  have hval : ∀ (j : Nat) t v, Try.f6.params[j]? = some t → args[j]? = some v → Value.okWide Try.prog W .any base t v := hval0
  have hW' := hW
  obtain ⟨p, q, hA0, hV, rfl, hfz, hnd⟩ := hW
  have hA : DataW.TrodAll enc Try.prog W 0 (fun _ => true) true Try.f6.params.toList args.toList ds p := hA0
  rw [Try.params6] at hA hval
  obtain ⟨v0, vs0, d0, ds0, p0, q0, hargs, rfl, rfl, h0, r0⟩ := trodAll_cons hA
  obtain ⟨v1, vs1, d1, ds1, p1, q1, rfl, rfl, rfl, h1, r1⟩ := trodAll_cons r0
  obtain ⟨v2, vs2, d2, ds2, p2, q2, rfl, rfl, rfl, h2, r2⟩ := trodAll_cons r1
  obtain ⟨rfl, rfl, rfl⟩ := trodAll_nil r2
  obtain rfl : args = #[v0, v1, v2] := by cases args; simp_all
  obtain ⟨rfl, rfl⟩ := trodVars_none hV
  have lt0 : ∀ x ∈ p0, x.block < W.heap.size := by obtain ⟨m, hm⟩ := h0; exact DataW.trod_lt m _ _ _ hm
  have lt1 : ∀ x ∈ p1, x.block < W.heap.size := by obtain ⟨m, hm⟩ := h1; exact DataW.trod_lt m _ _ _ hm
  have lt2 : ∀ x ∈ p2, x.block < W.heap.size := by obtain ⟨m, hm⟩ := h2; exact DataW.trod_lt m _ _ _ hm
  have hw := keyLess_row enc W base v0 d0 p0 (hval 0 9 v0 rfl rfl) h0 v1 d1 p1 (hval 1 9 v1 rfl rfl) h1 v2 d2 p2 (hval 2 9 v2 rfl rfl) h2
  clear hA0 hval0
  refine hw.mono fun e W' ⟨he, bel⟩ => ?_
  subst he
  exact ⟨_, rfl, _, _, _, [], _, [], hW', trodAll_mk1 (shut_bool Try.underlying4 _), (trodAll_cons_mk (Below.trod keyLess_laidOut (by kernel_rfl) (of_decide_eq_true (by kernel_rfl)) h0 bel lt0) (trodAll_cons_mk (Below.trod keyLess_laidOut (by kernel_rfl) (of_decide_eq_true (by kernel_rfl)) h1 bel lt1) (trodAll_cons_mk (Below.trod keyLess_laidOut (by kernel_rfl) (of_decide_eq_true (by kernel_rfl)) h2 bel lt2) trodAll_mk0))), rfl, Below.frame bel _, fun h => by cases h⟩

/-- The statement. -/
theorem keyLess_holds : Rows.KeyLessSaid :=
  OpenClaim.holds_of_wide 6 Try.f6 rfl rfl rfl rfl rfl rfl rfl ⟨rfl, rfl, rfl, rfl, rfl⟩ rfl rfl rfl rfl rfl (by kernel_rfl) Try.func6 (by kernel_rfl)
    (of_decide_eq_true (by kernel_rfl)) (by unfold Func.isWrapper; first | (rw [if_pos (by decide +kernel)]; kernel_rfl) | (rw [if_neg (by decide +kernel)]; exact ⟨rfl, rfl⟩))
    (fun os started H enc _ => keyLess_lifted os started H enc)
end Go.Proofs.Ytnelhbkneokpiaa
