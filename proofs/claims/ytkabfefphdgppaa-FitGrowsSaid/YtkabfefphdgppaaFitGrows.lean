/-
  FitGrows: a value that fits at a width fits at every greater width.
-/
import Derived.Test.YtkabfefphdgppaaRows
import Derived.Test.YtkabfefphdgppaaHelp16
import Derived.Test.YtkabfefphdgppaaPlain16
import Derived.ProofKit
import Derived.OpenShut
import Derived.ShutString
import Derived.ChangeOld
import Derived.Below
import Derived.Lib.SmallJoins
namespace Go.Proofs.Ytkabfefphdgppaa
open Go Go.ChangeShapes Go.WideShapes Go.ChangeAt Go.RowKit Go.Joins
open Go.ChangeMaps (open_string shut_string)
set_option linter.unusedVariables false

set_option maxRecDepth 100000 in
set_option maxHeartbeats 4000000 in
theorem fitGrows_any (a b c : Int) (w : World) (m0 : -9223372036854775808 ≤ a) (m1 : a ≤ 9223372036854775807) (b0 : -9223372036854775808 ≤ b) (b1 : b ≤ 9223372036854775807) (c0 : -9223372036854775808 ≤ c) (c1 : c ≤ 9223372036854775807) :
    Calls Try.prog 6 #[.int .i64 a, .int .i64 b, .int .i64 c] w fun e w' => e = .returned (.bool true) ∧ Grew w w' := by
  have a0 : 1 ≤ 1 + b % 1048576 := by omega
  have a1 : 1 + b % 1048576 ≤ 1048576 := by omega
  have i0 : 0 ≤ c % 5001 := by omega
  have i1 : c % 5001 < 5001 := by omega
  have n0 : 0 ≤ a % (1 + b % 1048576) := Int.emod_nonneg _ (by omega)
  have n1 : a % (1 + b % 1048576) < 1 + b % 1048576 := Int.emod_lt_of_pos _ (by omega)
  have hcs := oneT_cases (a % (1 + b % 1048576)) (1 + b % 1048576) (c % 5001) n0 (by omega) (by omega) i0 (by omega)
  rcases hcs with ⟨hn, _⟩ | ⟨hn, ⟨ho, p⟩ | ⟨ho, _, p⟩ | ⟨ho, _, p⟩ | ⟨ho, _, p⟩⟩
  · exfalso; omega
  · have HO := Lib.hid ho
    have HP := Lib.hid p
    clear ho p
    go_enter Try.func6, Try.ntmps6
    go_wp2_with fail
    refine (works16_any _).mono ?_
    rintro e w1 ⟨rfl, hg0⟩
    go_wp2_with fail
    refine (bring_any _ _ _ b0 b1 (by omega) (by omega)).mono ?_
    rintro e w2 ⟨rfl, rfl⟩
    go_wp2_with fail
    refine (bring_any _ _ _ c0 c1 (by omega) (by omega)).mono ?_
    rintro e w2 ⟨rfl, rfl⟩
    go_wp2_with fail
    refine (bring_any _ _ _ m0 m1 (by omega) (by omega)).mono ?_
    rintro e w2 ⟨rfl, rfl⟩
    have ho := HO.out
    have p := HP
    clear HO HP
    generalize a % (1 + b % 1048576) = n at *
    generalize 1 + b % 1048576 = at_ at *
    generalize c % 5001 = i at *
    go_wp2_with fail
    refine (text_any _ _).mono ?_
    rintro e w2 ⟨rfl, hg1⟩
    go_wp2_with fail
    refine (one_any _ _ _ _ _ _ (by omega) (by omega)).mono ?_
    rw [ho]
    rintro e w3 ⟨rfl, hg2⟩
    clear ho
    go_wp2_with fail
    go_loopw [7] (fun v wr => Grew w wr ∧ ((v = .int .i64 1 ∧ Hid (fitsF 5 1 n at_ i 1 = true)) ∨ (v = .int .i64 2 ∧ Hid (fitsF 5 1 n at_ i 2 = true)) ∨ (v = .int .i64 4 ∧ Hid (fitsF 5 1 n at_ i 4 = true)) ∨ (v = .int .i64 8 ∧ Hid (fitsF 5 1 n at_ i 8 = true)) ∨ (v = .int .i64 16 ∧ True))) (fun v _ => 16 - (intOf v).toNat)
    case atStart => exact ⟨((hg0.trans hg1).trans hg2), .inl ⟨rfl, p⟩⟩
    case round =>
      obtain ⟨hg, hrel⟩ := hrel
      rcases hrel with ⟨rfl, p⟩ | ⟨rfl, p⟩ | ⟨rfl, p⟩ | ⟨rfl, p⟩ | ⟨rfl, _⟩
      · have pv := p.out
        go_wp2_with fail
        refine (lawFits_any _ _ _ _ _ (.inl rfl) n0 (by omega) (by omega) (by omega) i0 (by omega)).mono ?_
        rw [pv]
        rintro e w4 ⟨rfl, rfl⟩
        clear pv
        go_wp2
        go_roundw
        case rel => exact ⟨hg, .inr (.inl ⟨rfl, (fitsT_up n at_ i 1 (.inl rfl) n0 (by omega) (by omega) i0 (by omega) p.out)⟩)⟩
        case measure => simp [intOf]
      · have pv := p.out
        go_wp2_with fail
        refine (lawFits_any _ _ _ _ _ (.inr (.inl rfl)) n0 (by omega) (by omega) (by omega) i0 (by omega)).mono ?_
        rw [pv]
        rintro e w4 ⟨rfl, rfl⟩
        clear pv
        go_wp2
        go_roundw
        case rel => exact ⟨hg, .inr (.inr (.inl ⟨rfl, (fitsT_up n at_ i 2 (.inr (.inl rfl)) n0 (by omega) (by omega) i0 (by omega) p.out)⟩))⟩
        case measure => simp [intOf]
      · have pv := p.out
        go_wp2_with fail
        refine (lawFits_any _ _ _ _ _ (.inr (.inr (.inl rfl))) n0 (by omega) (by omega) (by omega) i0 (by omega)).mono ?_
        rw [pv]
        rintro e w4 ⟨rfl, rfl⟩
        clear pv
        go_wp2
        go_roundw
        case rel => exact ⟨hg, .inr (.inr (.inr (.inl ⟨rfl, (fitsT_up n at_ i 4 (.inr (.inr rfl)) n0 (by omega) (by omega) i0 (by omega) p.out)⟩)))⟩
        case measure => simp [intOf]
      · have pv := p.out
        go_wp2_with fail
        refine (lawFits_any _ _ _ _ _ (.inr (.inr (.inr rfl))) n0 (by omega) (by omega) (by omega) i0 (by omega)).mono ?_
        rw [pv]
        rintro e w4 ⟨rfl, rfl⟩
        clear pv
        go_wp2
        go_roundw
        case rel => exact ⟨hg, .inr (.inr (.inr (.inr (⟨rfl, trivial⟩))))⟩
        case measure => simp [intOf]
      · go_wp2
        go_ret
        exact ⟨rfl, hg⟩
  · have HO := Lib.hid ho
    have HP := Lib.hid p
    clear ho p
    go_enter Try.func6, Try.ntmps6
    go_wp2_with fail
    refine (works16_any _).mono ?_
    rintro e w1 ⟨rfl, hg0⟩
    go_wp2_with fail
    refine (bring_any _ _ _ b0 b1 (by omega) (by omega)).mono ?_
    rintro e w2 ⟨rfl, rfl⟩
    go_wp2_with fail
    refine (bring_any _ _ _ c0 c1 (by omega) (by omega)).mono ?_
    rintro e w2 ⟨rfl, rfl⟩
    go_wp2_with fail
    refine (bring_any _ _ _ m0 m1 (by omega) (by omega)).mono ?_
    rintro e w2 ⟨rfl, rfl⟩
    have ho := HO.out
    have p := HP
    clear HO HP
    generalize a % (1 + b % 1048576) = n at *
    generalize 1 + b % 1048576 = at_ at *
    generalize c % 5001 = i at *
    go_wp2_with fail
    refine (text_any _ _).mono ?_
    rintro e w2 ⟨rfl, hg1⟩
    go_wp2_with fail
    refine (one_any _ _ _ _ _ _ (by omega) (by omega)).mono ?_
    rw [ho]
    rintro e w3 ⟨rfl, hg2⟩
    clear ho
    go_wp2_with fail
    go_loopw [7] (fun v wr => Grew w wr ∧ ((v = .int .i64 2 ∧ Hid (fitsF 5 1 n at_ i 2 = true)) ∨ (v = .int .i64 4 ∧ Hid (fitsF 5 1 n at_ i 4 = true)) ∨ (v = .int .i64 8 ∧ Hid (fitsF 5 1 n at_ i 8 = true)) ∨ (v = .int .i64 16 ∧ True))) (fun v _ => 16 - (intOf v).toNat)
    case atStart => exact ⟨((hg0.trans hg1).trans hg2), .inl ⟨rfl, p⟩⟩
    case round =>
      obtain ⟨hg, hrel⟩ := hrel
      rcases hrel with ⟨rfl, p⟩ | ⟨rfl, p⟩ | ⟨rfl, p⟩ | ⟨rfl, _⟩
      · have pv := p.out
        go_wp2_with fail
        refine (lawFits_any _ _ _ _ _ (.inr (.inl rfl)) n0 (by omega) (by omega) (by omega) i0 (by omega)).mono ?_
        rw [pv]
        rintro e w4 ⟨rfl, rfl⟩
        clear pv
        go_wp2
        go_roundw
        case rel => exact ⟨hg, .inr (.inl ⟨rfl, (fitsT_up n at_ i 2 (.inr (.inl rfl)) n0 (by omega) (by omega) i0 (by omega) p.out)⟩)⟩
        case measure => simp [intOf]
      · have pv := p.out
        go_wp2_with fail
        refine (lawFits_any _ _ _ _ _ (.inr (.inr (.inl rfl))) n0 (by omega) (by omega) (by omega) i0 (by omega)).mono ?_
        rw [pv]
        rintro e w4 ⟨rfl, rfl⟩
        clear pv
        go_wp2
        go_roundw
        case rel => exact ⟨hg, .inr (.inr (.inl ⟨rfl, (fitsT_up n at_ i 4 (.inr (.inr rfl)) n0 (by omega) (by omega) i0 (by omega) p.out)⟩))⟩
        case measure => simp [intOf]
      · have pv := p.out
        go_wp2_with fail
        refine (lawFits_any _ _ _ _ _ (.inr (.inr (.inr rfl))) n0 (by omega) (by omega) (by omega) i0 (by omega)).mono ?_
        rw [pv]
        rintro e w4 ⟨rfl, rfl⟩
        clear pv
        go_wp2
        go_roundw
        case rel => exact ⟨hg, .inr (.inr (.inr (⟨rfl, trivial⟩)))⟩
        case measure => simp [intOf]
      · go_wp2
        go_ret
        exact ⟨rfl, hg⟩
  · have HO := Lib.hid ho
    have HP := Lib.hid p
    clear ho p
    go_enter Try.func6, Try.ntmps6
    go_wp2_with fail
    refine (works16_any _).mono ?_
    rintro e w1 ⟨rfl, hg0⟩
    go_wp2_with fail
    refine (bring_any _ _ _ b0 b1 (by omega) (by omega)).mono ?_
    rintro e w2 ⟨rfl, rfl⟩
    go_wp2_with fail
    refine (bring_any _ _ _ c0 c1 (by omega) (by omega)).mono ?_
    rintro e w2 ⟨rfl, rfl⟩
    go_wp2_with fail
    refine (bring_any _ _ _ m0 m1 (by omega) (by omega)).mono ?_
    rintro e w2 ⟨rfl, rfl⟩
    have ho := HO.out
    have p := HP
    clear HO HP
    generalize a % (1 + b % 1048576) = n at *
    generalize 1 + b % 1048576 = at_ at *
    generalize c % 5001 = i at *
    go_wp2_with fail
    refine (text_any _ _).mono ?_
    rintro e w2 ⟨rfl, hg1⟩
    go_wp2_with fail
    refine (one_any _ _ _ _ _ _ (by omega) (by omega)).mono ?_
    rw [ho]
    rintro e w3 ⟨rfl, hg2⟩
    clear ho
    go_wp2_with fail
    go_loopw [7] (fun v wr => Grew w wr ∧ ((v = .int .i64 4 ∧ Hid (fitsF 5 1 n at_ i 4 = true)) ∨ (v = .int .i64 8 ∧ Hid (fitsF 5 1 n at_ i 8 = true)) ∨ (v = .int .i64 16 ∧ True))) (fun v _ => 16 - (intOf v).toNat)
    case atStart => exact ⟨((hg0.trans hg1).trans hg2), .inl ⟨rfl, p⟩⟩
    case round =>
      obtain ⟨hg, hrel⟩ := hrel
      rcases hrel with ⟨rfl, p⟩ | ⟨rfl, p⟩ | ⟨rfl, _⟩
      · have pv := p.out
        go_wp2_with fail
        refine (lawFits_any _ _ _ _ _ (.inr (.inr (.inl rfl))) n0 (by omega) (by omega) (by omega) i0 (by omega)).mono ?_
        rw [pv]
        rintro e w4 ⟨rfl, rfl⟩
        clear pv
        go_wp2
        go_roundw
        case rel => exact ⟨hg, .inr (.inl ⟨rfl, (fitsT_up n at_ i 4 (.inr (.inr rfl)) n0 (by omega) (by omega) i0 (by omega) p.out)⟩)⟩
        case measure => simp [intOf]
      · have pv := p.out
        go_wp2_with fail
        refine (lawFits_any _ _ _ _ _ (.inr (.inr (.inr rfl))) n0 (by omega) (by omega) (by omega) i0 (by omega)).mono ?_
        rw [pv]
        rintro e w4 ⟨rfl, rfl⟩
        clear pv
        go_wp2
        go_roundw
        case rel => exact ⟨hg, .inr (.inr (⟨rfl, trivial⟩))⟩
        case measure => simp [intOf]
      · go_wp2
        go_ret
        exact ⟨rfl, hg⟩
  · have HO := Lib.hid ho
    have HP := Lib.hid p
    clear ho p
    go_enter Try.func6, Try.ntmps6
    go_wp2_with fail
    refine (works16_any _).mono ?_
    rintro e w1 ⟨rfl, hg0⟩
    go_wp2_with fail
    refine (bring_any _ _ _ b0 b1 (by omega) (by omega)).mono ?_
    rintro e w2 ⟨rfl, rfl⟩
    go_wp2_with fail
    refine (bring_any _ _ _ c0 c1 (by omega) (by omega)).mono ?_
    rintro e w2 ⟨rfl, rfl⟩
    go_wp2_with fail
    refine (bring_any _ _ _ m0 m1 (by omega) (by omega)).mono ?_
    rintro e w2 ⟨rfl, rfl⟩
    have ho := HO.out
    have p := HP
    clear HO HP
    generalize a % (1 + b % 1048576) = n at *
    generalize 1 + b % 1048576 = at_ at *
    generalize c % 5001 = i at *
    go_wp2_with fail
    refine (text_any _ _).mono ?_
    rintro e w2 ⟨rfl, hg1⟩
    go_wp2_with fail
    refine (one_any _ _ _ _ _ _ (by omega) (by omega)).mono ?_
    rw [ho]
    rintro e w3 ⟨rfl, hg2⟩
    clear ho
    go_wp2_with fail
    go_loopw [7] (fun v wr => Grew w wr ∧ ((v = .int .i64 8 ∧ Hid (fitsF 5 1 n at_ i 8 = true)) ∨ (v = .int .i64 16 ∧ True))) (fun v _ => 16 - (intOf v).toNat)
    case atStart => exact ⟨((hg0.trans hg1).trans hg2), .inl ⟨rfl, p⟩⟩
    case round =>
      obtain ⟨hg, hrel⟩ := hrel
      rcases hrel with ⟨rfl, p⟩ | ⟨rfl, _⟩
      · have pv := p.out
        go_wp2_with fail
        refine (lawFits_any _ _ _ _ _ (.inr (.inr (.inr rfl))) n0 (by omega) (by omega) (by omega) i0 (by omega)).mono ?_
        rw [pv]
        rintro e w4 ⟨rfl, rfl⟩
        clear pv
        go_wp2
        go_roundw
        case rel => exact ⟨hg, .inr (⟨rfl, trivial⟩)⟩
        case measure => simp [intOf]
      · go_wp2
        go_ret
        exact ⟨rfl, hg⟩

theorem fitGrows_row {H : Type} (enc : TypeId × Value → H) (W : World) (base : Nat) (v0 : Value) (d0 : DataW H) (p0 : List MemPlace) (o0 : Value.okWide Try.prog W .any base 3 v0) (k0 : DataW.Trod enc Try.prog W 0 (fun _ => true) true 3 v0 d0 p0) (v1 : Value) (d1 : DataW H) (p1 : List MemPlace) (o1 : Value.okWide Try.prog W .any base 3 v1) (k1 : DataW.Trod enc Try.prog W 0 (fun _ => true) true 3 v1 d1 p1) (v2 : Value) (d2 : DataW H) (p2 : List MemPlace) (o2 : Value.okWide Try.prog W .any base 3 v2) (k2 : DataW.Trod enc Try.prog W 0 (fun _ => true) true 3 v2 d2 p2) :
    Calls Try.prog 6 #[v0, v1, v2] W fun e w' => e = .returned (.bool true) ∧ Below W.heap.size W w' := by
  obtain ⟨a, rfl, _, _, wa⟩ := open_int Try.underlying3 o0 k0
  obtain ⟨b, rfl, _, _, wb⟩ := open_int Try.underlying3 o1 k1
  obtain ⟨c, rfl, _, _, wc⟩ := open_int Try.underlying3 o2 k2
  have ha := bounds_i64 wa
  have hb := bounds_i64 wb
  have hc := bounds_i64 wc
  exact (fitGrows_any a b c W (by omega) (by omega) (by omega) (by omega) (by omega) (by omega)).mono fun e w' ⟨he, hg⟩ => ⟨he, hg.below⟩

theorem fitGrows_own : ownKnob Try.prog.godebug = none := by kernel_rfl
theorem fitGrows_laidOut : laidOutB Try.prog = true := by kernel_rfl

set_option maxRecDepth 100000 in
theorem fitGrows_lifted (os : Os) (started : os.Started) (H : Type) (enc : TypeId × Value → H) :
    ReturnsInHanded {} Try.checked os 6 .any (Rows.fitGrowsSpec.pre6 enc Try.prog Try.f6 Rows.fitGrowsRow.domain false) (Rows.fitGrowsSpec.post enc Try.prog Try.f6 false true false false) := by
  refine returnsInHanded_of_change (C := Try.checked) fitGrows_own started (by kernel_rfl) Try.func6
    (ChangeSpec.witness6 (enc := enc) (C := Try.checked) false ⟨#[], #[.int .i64 0, .int .i64 0, .int .i64 0], []⟩ 8 (by kernel_rfl) (by kernel_rfl) (by kernel_rfl) (by kernel_rfl)) ?_
  intro W base args ds gs before hval0 hW hcnd _
  have hval : ∀ (j : Nat) t v, Try.f6.params[j]? = some t → args[j]? = some v → Value.okWide Try.prog W .any base t v := hval0
  have hW' := hW
  obtain ⟨p, q, hA0, hV, rfl, hfz, hnd⟩ := hW
  have hA : DataW.TrodAll enc Try.prog W 0 (fun _ => true) true Try.f6.params.toList args.toList ds p := hA0
  rw [Try.params6] at hA hval
  obtain ⟨v0, vs0, d0, ds0, p0, q0, hargs, rfl, rfl, h0, r0⟩ := trodAll_cons hA
  obtain ⟨v1, vs1, d1, ds1, p1, q1, rfl, rfl, rfl, h1, r1⟩ := trodAll_cons r0
  obtain ⟨v2, vs2, d2, ds2, p2, q2, rfl, rfl, rfl, h2, r2⟩ := trodAll_cons r1
  obtain ⟨rfl, rfl, rfl⟩ := trodAll_nil r2
  obtain rfl : args = #[v0, v1, v2] := by cases args; simp_all
  obtain ⟨rfl, rfl⟩ := trodVars_none hV
  have lt0 : ∀ x ∈ p0, x.block < W.heap.size := by obtain ⟨m, hm⟩ := h0; exact DataW.trod_lt m _ _ _ hm
  have lt1 : ∀ x ∈ p1, x.block < W.heap.size := by obtain ⟨m, hm⟩ := h1; exact DataW.trod_lt m _ _ _ hm
  have lt2 : ∀ x ∈ p2, x.block < W.heap.size := by obtain ⟨m, hm⟩ := h2; exact DataW.trod_lt m _ _ _ hm
  have hw := fitGrows_row enc W base v0 d0 p0 (hval 0 3 v0 rfl rfl) h0 v1 d1 p1 (hval 1 3 v1 rfl rfl) h1 v2 d2 p2 (hval 2 3 v2 rfl rfl) h2
  clear hA0 hval0
  refine hw.mono fun e W' ⟨he, bel⟩ => ?_
  subst he
  exact ⟨_, rfl, _, _, _, [], _, [], hW', trodAll_mk1 (shut_bool Try.underlying4 _), (trodAll_cons_mk (Below.trod fitGrows_laidOut (by kernel_rfl) (of_decide_eq_true (by kernel_rfl)) h0 bel lt0) (trodAll_cons_mk (Below.trod fitGrows_laidOut (by kernel_rfl) (of_decide_eq_true (by kernel_rfl)) h1 bel lt1) (trodAll_cons_mk (Below.trod fitGrows_laidOut (by kernel_rfl) (of_decide_eq_true (by kernel_rfl)) h2 bel lt2) trodAll_mk0))), rfl, Below.frame bel _, fun h => by cases h⟩

/-- The statement. -/
theorem fitGrows_holds : Rows.FitGrowsSaid :=
  OpenClaim.holds_of_wide 6 Try.f6 rfl rfl rfl rfl rfl rfl rfl ⟨rfl, rfl, rfl, rfl, rfl⟩ rfl rfl rfl rfl rfl (by kernel_rfl) Try.func6 (by kernel_rfl)
    (of_decide_eq_true (by kernel_rfl)) (by unfold Func.isWrapper; first | (rw [if_pos (by decide +kernel)]; kernel_rfl) | (rw [if_neg (by decide +kernel)]; exact ⟨rfl, rfl⟩))
    (fun os started H enc _ => fitGrows_lifted os started H enc)

end Go.Proofs.Ytkabfefphdgppaa
