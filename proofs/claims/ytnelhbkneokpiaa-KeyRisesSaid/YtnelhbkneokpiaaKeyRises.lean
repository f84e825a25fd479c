/-
  'KeyRises': Order gives the permutation that sorts the keys, and fails just where two are equal. Conditions: none beyond the statement's own.
-/
import Derived.Test.YtnelhbkneokpiaaRows
import Derived.Test.YtnelhbkneokpiaaPF
import Derived.ProofKit
import Derived.OpenShut
import Derived.ShutString
import Derived.ChangeOld
import Derived.Below
import Derived.Lib.SmallJoins
import Derived.Deep.QuietTactic
import Derived.BigQuiet
namespace Go.Proofs.Ytnelhbkneokpiaa
open Go Go.ChangeShapes Go.WideShapes Go.ChangeAt Go.RowKit Go.Joins
open Go.ChangeMaps (open_string shut_string)
open Go.Deep
set_option linter.unusedVariables false
set_option linter.unusedSimpArgs false

/-- Whether a key occurs twice. -/
def dupB (l : List ByteArray) : Bool := decide (¬ l.Nodup)
theorem dup_snoc (l : List ByteArray) (x : ByteArray) : dupB (l ++ [x]) = (dupB l || seenB x l) := by
  rw [Bool.eq_iff_iff]
  simp only [dupB, decide_eq_true_eq, Bool.or_eq_true, seenB_iff]
  rw [List.nodup_append]
  constructor
  · intro h
    by_cases h1 : l.Nodup
    · by_cases h2 : x ∈ l
      · exact .inr h2
      · exact absurd ⟨h1, by simp, fun a ha b hb => by simp at hb; subst hb; exact fun e => h2 (e ▸ ha)⟩ h
    · exact .inl h1
  · rintro (h | h) ⟨h1, _, h3⟩
    · exact h h1
    · exact h3 x h x (by simp) rfl
theorem seen_snoc (k : ByteArray) (l : List ByteArray) (x : ByteArray) : seenB k (l ++ [x]) = (seenB k l || decide (x = k)) := by simp [seenB]
set_option maxRecDepth 100000 in
set_option maxHeartbeats 4000000 in
theorem keyRises_row {H : Type} (enc : TypeId × Value → H) (W : World) (base : Nat) (v0 : Value) (d0 : DataW H) (p0 : List MemPlace) (o0 : Value.okWide Try.prog W .any base 22 v0) (k0 : DataW.Trod enc Try.prog W 0 (fun _ => true) true 22 v0 d0 p0) :
    Calls Try.prog 7 #[v0] W fun e w' => e = .returned (.bool true) ∧ Below W.heap.size W w' := by
  obtain ⟨l, hl⟩ := open_strs1 o0 k0
  obtain ⟨a, c, rfl⟩ := hl.form
  have HL := Lib.hid hl
  clear o0 k0 hl
  go_enter Try.func7, Try.ntmps7
  go_wp2_with fail
  refine (few07_any _ _ _ HL.out).mono ?_
  rintro r w1 ⟨v1, rfl, hs1, hg1⟩
  obtain ⟨a1, c1, rfl⟩ := hs1.form
  have hlen := few_len l
  generalize textsS l 60 40 = m at *
  have HS1 := Lib.hid hs1
  have HG1 := Lib.hid hg1
  clear hs1 hg1
  go_wp2_with fail
  go_loopw [4, 5] (fun h i wr => ∃ q : Nat, q ≤ m.length ∧ i = .int .i64 q ∧ h = .bool (dupB (m.take q)) ∧ Hid (Grew w1 wr)) (fun _ i _ => m.length - (intOf i).toNat)
  case atStart => exact ⟨0, Nat.zero_le _, rfl, by simp [dupB], Grew.refl _⟩
  case round =>
    obtain ⟨q, hq, rfl, rfl, HW⟩ := hrel
    by_cases hlt : q < m.length
    · obtain ⟨x, hx⟩ : ∃ x, m[q]? = some x := ⟨_, List.getElem?_eq_getElem hlt⟩
      have htk : m.take (q + 1) = m.take q ++ [x] := by rw [List.take_add_one, hx]; rfl
      have HTK : Hid (dupB (m.take (q + 1)) = (dupB (m.take q) || seenB x (m.take q))) := by show _ = _; rw [htk, dup_snoc]
      have HX := Lib.hid hx
      obtain ⟨b0, hb0⟩ : ∃ b, dupB (m.take q) = b := ⟨_, rfl⟩
      rw [hb0] at HTK ⊢
      have hli : (q : Int) < m.length := by omega
      have hd : decide ((q : Int) < m.length) = true := decide_eq_true hli
      clear hx htk hb0
      go_wp2_with fail
      go_loopw [4, 6] (fun h i wr2 => ∃ k : Nat, k ≤ q ∧ i = .int .i64 k ∧ h = .bool (b0 || seenB x (m.take k)) ∧ Hid (Grew w1 wr2)) (fun _ i _ => q - (intOf i).toNat)
      case atStart => exact ⟨0, Nat.zero_le _, rfl, by simp [seenB], HW⟩
      case round =>
        obtain ⟨k, hk, rfl, rfl, HV⟩ := hrel
        by_cases hkq : k < q
        · obtain ⟨y, hy⟩ : ∃ y, m[k]? = some y := ⟨_, List.getElem?_eq_getElem (by omega)⟩
          have HNX : Hid (seenB x (m.take (k + 1)) = (seenB x (m.take k) || decide (y = x))) := by
            show _ = _
            rw [List.take_add_one, hy]; exact seen_snoc x _ y
          obtain ⟨_, _, ee, _, _, _, hcell⟩ := HS1.out
          cases ee
          obtain ⟨_, b1, o1, e2, hc⟩ := hcell k y hy
          obtain ⟨_, b2, o2, e3, hc2⟩ := hcell q x HX.out
          subst e2
          cases e3
          have d1 := HV.out.cell hc
          have d2 := HV.out.cell hc2
          have hki : (k : Int) < m.length := by omega
          have hkqi : (k : Int) < q := by omega
          have hdk : decide ((k : Int) < q) = true := decide_eq_true hkqi
          have hste := str_eq x y
          have hsy : decide (x = y) = decide (y = x) := by rw [Bool.eq_iff_iff]; simp [eq_comm]
          rw [hsy] at hste
          obtain ⟨ey, hey⟩ : ∃ ey, decide (y = x) = ey := ⟨_, rfl⟩
          rw [hey] at hste HNX
          obtain ⟨b3, hb3⟩ : ∃ b, (b0 || seenB x (m.take k)) = b := ⟨_, rfl⟩
          have HB3 := Lib.hid hb3
          rw [hb3]
          clear hcell hc hc2 hsy hey hy hb3
          cases b3
          all_goals
            go_wp2_with fail
            go_quiet (fail)
            go_wp2_with fail
            go_roundw
            case rel => exact ⟨k + 1, by omega, by go_num, by rw [HNX.out, ← Bool.or_assoc, HB3.out]; simp, HV.out.drewN _⟩
            case measure => simp [intOf]; omega
        · have ek : k = q := by omega
          subst ek
          have hnk : ¬ (k : Int) < k := by omega
          obtain ⟨b4, hb4⟩ : ∃ b, (b0 || seenB x (m.take k)) = b := ⟨_, rfl⟩
          have HB4 := Lib.hid hb4
          rw [hb4]
          clear hb4
          go_wp2_with fail
          go_roundw
          case rel => exact ⟨k + 1, by omega, by go_num, by rw [HTK.out, HB4.out], HV.out⟩
          case measure => simp [intOf]; omega
    · have eq : q = m.length := by omega
      subst eq
      rw [List.take_length]
      have hlt' : ¬ (m.length : Int) < m.length := by omega
      obtain ⟨b0, hb0⟩ : ∃ b, dupB m = b := ⟨_, rfl⟩
      have HB0 := Lib.hid hb0
      rw [hb0]
      clear hb0
      go_wp2_with fail
      refine (risen_any m (by omega) _ wr (HS1.out.grew HW.out)).mono ?_
      rintro r w2 ⟨hg2, ⟨hnd, rfl⟩ | ⟨hnd, v2, rfl, hs2⟩⟩
      · have e : b0 = true := by rw [← HB0.out]; simpa [dupB] using hnd
        subst e
        have HG2 := Lib.hid (HG1.out.trans (HW.out.trans hg2))
        clear hg2
        go_wp2_with fail
        go_loopw [9] (fun i wr2 => i = .int .i64 1 ∧ wr2 = w2) (fun _ _ => 0)
        case atStart => exact ⟨rfl, rfl⟩
        case round =>
          obtain ⟨rfl, rfl⟩ := hrel
          go_wp2_with fail
          refine (works07_any _).mono ?_
          rintro r w4 ⟨rfl, hg4⟩
          go_wp2_with fail
          go_ret
          exact ⟨rfl, HG2.out.trans hg4⟩
      · have e : b0 = false := by rw [← HB0.out]; simpa [dupB] using hnd
        subst e
        have HG2 := Lib.hid (HG1.out.trans (HW.out.trans hg2))
        have HRS := Lib.hid (rise_sorted hnd)
        have hul : (riseK m).length ≤ 60 := by rw [rise_len]; exact hlen
        obtain ⟨a2, c2, rfl⟩ := hs2.form
        generalize riseK m = u at *
        have HS2 := Lib.hid hs2
        clear hg2 hs2 hnd
        go_wp2_with fail
        go_loopw [9] (fun i wr2 => ∃ k : Nat, (k ≤ u.length ∨ k = 1) ∧ 1 ≤ k ∧ i = .int .i64 k ∧ Hid (Grew w2 wr2)) (fun i _ => u.length + 1 - (intOf i).toNat)
        case atStart => exact ⟨1, .inr rfl, Nat.le_refl _, rfl, Grew.refl _⟩
        case round =>
          obtain ⟨k, hk, hk1, rfl, HV⟩ := hrel
          by_cases hkl : k < u.length
          · obtain ⟨j, rfl⟩ : ∃ j, k = j + 1 := ⟨k - 1, by omega⟩
            obtain ⟨y, hy⟩ : ∃ y, u[j]? = some y := ⟨_, List.getElem?_eq_getElem (by omega)⟩
            obtain ⟨z, hz⟩ : ∃ z, u[j + 1]? = some z := ⟨_, List.getElem?_eq_getElem hkl⟩
            have hlt2 : ltS y z = true := by
              have hj := (List.getElem?_eq_some_iff.1 hy)
              have hj2 := (List.getElem?_eq_some_iff.1 hz)
              have := List.pairwise_iff_getElem.1 HRS.out j (j + 1) hj.1 hj2.1 (by omega)
              rwa [hj.2, hj2.2] at this
            obtain ⟨_, _, ee, _, _, _, hcell⟩ := HS2.out
            cases ee
            obtain ⟨_, b1, o1, e2, hc⟩ := hcell j y hy
            obtain ⟨_, b2, o2, e3, hc2⟩ := hcell (j + 1) z hz
            subst e2
            cases e3
            have d1 := HV.out.cell hc
            have d2 := HV.out.cell hc2
            have hw1 : IntKind.i64.wrap ((j : Int) + 1 - 1) = j := by rw [IntKind.wrap_i64]; omega
            have hji : (j : Int) + 1 < u.length := by omega
            have hji2 : (j : Int) < u.length := by omega
            have hcall := fun w => kless_any y z w
            rw [hlt2] at hcall
            have HCALL := Lib.hid hcall
            clear hcell hc hc2 hy hz hcall hlt2
            go_wp2_with fail
            go_quiet ((go_at_call 16; exact Calls.quiet_of_same ((HCALL.out _).mono fun _ _ h => ⟨h.1, h.2.symm⟩)))
            go_wp2_with fail
            go_roundw
            case rel => exact ⟨j + 1 + 1, by omega, by omega, by go_num, HV.out.drewN _⟩
            case measure => simp [intOf]; omega
          · have hge : ¬ (k : Int) < u.length := by omega
            go_wp2_with fail
            refine (works07_any _).mono ?_
            rintro r w4 ⟨rfl, hg4⟩
            have HG4 := Lib.hid (HG2.out.trans (HV.out.trans hg4))
            clear hg4
            go_wp2_with fail
            go_ret
            exact ⟨rfl, HG4.out⟩

theorem keyRises_own : ownKnob Try.prog.godebug = none := by kernel_rfl
theorem keyRises_laidOut : laidOutB Try.prog = true := by kernel_rfl

set_option maxRecDepth 100000 in
theorem keyRises_lifted (os : Os) (started : os.Started) (H : Type) (enc : TypeId × Value → H) :
    ReturnsInHanded {} Try.checked os 7 .any (Rows.keyRisesSpec.pre6 enc Try.prog Try.f7 Rows.keyRisesRow.domain false) (Rows.keyRisesSpec.post enc Try.prog Try.f7 false true false false) := by
  refine returnsInHanded_of_change (C := Try.checked) keyRises_own started (by kernel_rfl) Try.func7
    (ChangeSpec.witness6 (enc := enc) (C := Try.checked) false ⟨#[], #[.slice none 0 0], []⟩ 8 (by kernel_rfl) (by kernel_rfl) (by kernel_rfl) (by kernel_rfl)) ?_
  intro W base args ds gs before hval0 hW hcnd _
  have hval : ∀ (j : Nat) t v, Try.f7.params[j]? = some t → args[j]? = some v → Value.okWide Try.prog W .any base t v := hval0
  have hW' := hW
  obtain ⟨p, q, hA0, hV, rfl, hfz, hnd⟩ := hW
  have hA : DataW.TrodAll enc Try.prog W 0 (fun _ => true) true Try.f7.params.toList args.toList ds p := hA0
  rw [Try.params7] at hA hval
  obtain ⟨v0, vs0, d0, ds0, p0, q0, hargs, rfl, rfl, h0, r0⟩ := trodAll_cons hA
  obtain ⟨rfl, rfl, rfl⟩ := trodAll_nil r0
  obtain rfl : args = #[v0] := by cases args; simp_all
  obtain ⟨rfl, rfl⟩ := trodVars_none hV
  have lt0 : ∀ x ∈ p0, x.block < W.heap.size := by obtain ⟨m, hm⟩ := h0; exact DataW.trod_lt m _ _ _ hm
  have hw := keyRises_row enc W base v0 d0 p0 (hval 0 22 v0 rfl rfl) h0
  clear hA0 hval0
  refine hw.mono fun e W' ⟨he, bel⟩ => ?_
  subst he
  exact ⟨_, rfl, _, _, _, [], _, [], hW', trodAll_mk1 (shut_bool Try.underlying4 _), (trodAll_cons_mk (Below.trod keyRises_laidOut (by kernel_rfl) (of_decide_eq_true (by kernel_rfl)) h0 bel lt0) trodAll_mk0), rfl, Below.frame bel _, fun h => by cases h⟩

/-- The statement. -/
theorem keyRises_holds : Rows.KeyRisesSaid :=
  OpenClaim.holds_of_wide 7 Try.f7 rfl rfl rfl rfl rfl rfl rfl ⟨rfl, rfl, rfl, rfl, rfl⟩ rfl rfl rfl rfl rfl (by kernel_rfl) Try.func7 (by kernel_rfl)
    (of_decide_eq_true (by kernel_rfl)) (by unfold Func.isWrapper; first | (rw [if_pos (by decide +kernel)]; kernel_rfl) | (rw [if_neg (by decide +kernel)]; exact ⟨rfl, rfl⟩))
    (fun os started H enc _ => keyRises_lifted os started H enc)
end Go.Proofs.Ytnelhbkneokpiaa
