/-
  FitNearer: a nearer target or a lesser index does not need a greater width.
-/
import Derived.Test.YtkabfefphdgppaaRows
import Derived.Test.YtkabfefphdgppaaHelp16
import Derived.Test.YtkabfefphdgppaaPlain16
import Derived.Test.YtkabfefphdgppaaOpen16
import Derived.ProofKit
import Derived.OpenShut
import Derived.ShutString
import Derived.ChangeOld
import Derived.Below
import Derived.Lib.SmallJoins
import Derived.Deep.QuietTactic
import Derived.BigQuiet
import Derived.Deep.Draws
namespace Go.Proofs.Ytkabfefphdgppaa
open Go Go.ChangeShapes Go.WideShapes Go.ChangeAt Go.RowKit Go.Joins
open Go.ChangeMaps (open_string shut_string)
set_option linter.unusedVariables false

theorem Grew.drewN {a w : World} (h : Grew a w) (n : Nat) : Grew a (w.drewN n) := by
  have h' : Below a.heap.size a w := h
  exact ⟨h'.os, h'.tape, h'.output, h'.size, h'.block⟩

set_option maxRecDepth 100000 in
set_option maxHeartbeats 4000000 in
theorem fitNearer_any (x y a i k : Int) (w : World) (x0 : -9223372036854775808 ≤ x) (x1 : x ≤ 9223372036854775807) (y0 : -9223372036854775808 ≤ y) (y1 : y ≤ 9223372036854775807) (a0 : -9223372036854775808 ≤ a) (a1 : a ≤ 9223372036854775807) (i0 : -9223372036854775808 ≤ i) (i1 : i ≤ 9223372036854775807) (k0 : -9223372036854775808 ≤ k) (k1 : k ≤ 9223372036854775807) :
    Calls Try.prog 9 #[.agg #[.int .i64 x, .int .i64 y], .int .i64 a, .agg #[.int .i64 i, .int .i64 k]] w fun e w' => e = .returned (.bool true) ∧ Grew w w' := by
  have t0 : 1 ≤ 1 + a % 1048576 := by omega
  have t1 : 1 + a % 1048576 ≤ 1048576 := by omega
  have xm0 : 0 ≤ x % (1 + a % 1048576) := Int.emod_nonneg _ (by omega)
  have xm1 : x % (1 + a % 1048576) < 1 + a % 1048576 := Int.emod_lt_of_pos _ (by omega)
  have ym0 : 0 ≤ y % (1 + a % 1048576) := Int.emod_nonneg _ (by omega)
  have ym1 : y % (1 + a % 1048576) < 1 + a % 1048576 := Int.emod_lt_of_pos _ (by omega)
  go_enter Try.func9, Try.ntmps9
  go_wp2_with fail
  refine (bring_any _ _ _ a0 a1 (by omega) (by omega)).mono ?_
  rintro e w1 ⟨rfl, rfl⟩
  go_wp2_with fail
  have d0 : ((w.alloc (.cells #[.int .i64 x, .int .i64 y] 28)).alloc (.cells #[.int .i64 i, .int .i64 k] 28)).cell? ⟨w.heap.size + 1, 0, none⟩ = some (.int .i64 i) := by go_simp
  have d1 : ((w.alloc (.cells #[.int .i64 x, .int .i64 y] 28)).alloc (.cells #[.int .i64 i, .int .i64 k] 28)).cell? ⟨w.heap.size + 1, 1, none⟩ = some (.int .i64 k) := by go_simp
  go_quiet ((go_at_call 17; exact Calls.quiet_of_same ((bring_any _ _ _ (by omega) (by omega) (by omega) (by omega)).mono fun _ _ h => ⟨h.1, h.2.symm⟩)))
  have g0 := (((Grew.refl w).alloc (.cells #[.int .i64 x, .int .i64 y] 28)).alloc (.cells #[.int .i64 i, .int .i64 k] 28)).drewN nq
  replace d0 := Grew.cell (Grew.drewN (Grew.refl _) nq) d0
  replace d1 := Grew.cell (Grew.drewN (Grew.refl _) nq) d1
  generalize (((w.alloc (.cells #[.int .i64 x, .int .i64 y] 28)).alloc (.cells #[.int .i64 i, .int .i64 k] 28)).drewN nq) = W2 at *
  go_wp2_with fail
  go_quiet ((go_at_call 17; exact Calls.quiet_of_same ((bring_any _ _ _ (by omega) (by omega) (by omega) (by omega)).mono fun _ _ h => ⟨h.1, h.2.symm⟩)))
  replace g0 := g0.drewN nq
  generalize W2.drewN nq = W3 at *
  clear d0 d1
  have im0 : 0 ≤ i % 5001 := by omega
  have im1 : i % 5001 < 5001 := by omega
  have km0 : 0 ≤ k % 5001 := by omega
  have km1 : k % 5001 < 5001 := by omega
  go_wp2_with fail
  generalize x % (1 + a % 1048576) = X at *
  generalize y % (1 + a % 1048576) = Y at *
  generalize 1 + a % 1048576 = T at *
  generalize i % 5001 = I at *
  generalize k % 5001 = J at *
  have e1 := one_near (min X Y) (max X Y) T (max I J) (max I J) (by omega) (by omega) (by omega) (by omega) (by omega) (by omega) (by omega)
  have e2 := one_near (min X Y) (min X Y) T (max I J) (min I J) (by omega) (by omega) (by omega) (by omega) (by omega) (by omega) (by omega)
  have e3 := one_pos (min X Y) T (max I J) (by omega) (by omega) (by omega) (by omega) (by omega)
  have mn0 : 0 ≤ min X Y := by omega
  have mn1 : min X Y ≤ 2097152 := by omega
  have mx0 : 0 ≤ max X Y := by omega
  have mx1 : max X Y ≤ 2097152 := by omega
  go_wp2_with fail
  refine (text_any _ _).mono ?_
  rintro e w4 ⟨rfl, h1⟩
  go_wp2_with fail
  refine (one_any _ _ _ _ _ _ (by omega) (by omega)).mono ?_
  rintro e w5 ⟨rfl, h2⟩
  go_wp2_with fail
  refine (text_any _ _).mono ?_
  rintro e w6 ⟨rfl, h3⟩
  go_wp2_with fail
  refine (one_any _ _ _ _ _ _ (by omega) (by omega)).mono ?_
  rintro e w7 ⟨rfl, h4⟩
  go_wp2_with fail
  refine (text_any _ _).mono ?_
  rintro e w8 ⟨rfl, h5⟩
  go_wp2_with fail
  refine (one_any _ _ _ _ _ _ (by omega) (by omega)).mono ?_
  rintro e w9 ⟨rfl, h6⟩
  go_wp2_with fail
  refine (works16_any _).mono ?_
  rintro e w10 ⟨rfl, h7⟩
  go_wp2
  go_ret
  exact ⟨rfl, ((((((g0.trans h1).trans h2).trans h3).trans h4).trans h5).trans h6).trans h7⟩

theorem fitNearer_row {H : Type} (enc : TypeId × Value → H) (W : World) (base : Nat) (v0 : Value) (d0 : DataW H) (p0 : List MemPlace) (o0 : Value.okWide Try.prog W .any base 28 v0) (k0 : DataW.Trod enc Try.prog W 0 (fun _ => true) true 28 v0 d0 p0) (v1 : Value) (d1 : DataW H) (p1 : List MemPlace) (o1 : Value.okWide Try.prog W .any base 3 v1) (k1 : DataW.Trod enc Try.prog W 0 (fun _ => true) true 3 v1 d1 p1) (v2 : Value) (d2 : DataW H) (p2 : List MemPlace) (o2 : Value.okWide Try.prog W .any base 28 v2) (k2 : DataW.Trod enc Try.prog W 0 (fun _ => true) true 28 v2 d2 p2) :
    Calls Try.prog 9 #[v0, v1, v2] W fun e w' => e = .returned (.bool true) ∧ Below W.heap.size W w' := by
  obtain ⟨x, y, rfl, hx, hy⟩ := open_pair2 o0 k0
  obtain ⟨a, rfl, _, _, wa⟩ := open_int Try.underlying3 o1 k1
  obtain ⟨i, j, rfl, hi, hj⟩ := open_pair2 o2 k2
  have ha := bounds_i64 wa
  exact (fitNearer_any x y a i j W hx.1 hx.2 hy.1 hy.2 (by omega) (by omega) hi.1 hi.2 hj.1 hj.2).mono fun e w' ⟨he, hg⟩ => ⟨he, hg.below⟩

theorem fitNearer_own : ownKnob Try.prog.godebug = none := by kernel_rfl
theorem fitNearer_laidOut : laidOutB Try.prog = true := by kernel_rfl

set_option maxRecDepth 100000 in
theorem fitNearer_lifted (os : Os) (started : os.Started) (H : Type) (enc : TypeId × Value → H) :
    ReturnsInHanded {} Try.checked os 9 .any (Rows.fitNearerSpec.pre6 enc Try.prog Try.f9 Rows.fitNearerRow.domain false) (Rows.fitNearerSpec.post enc Try.prog Try.f9 false true false false) := by
  refine returnsInHanded_of_change (C := Try.checked) fitNearer_own started (by kernel_rfl) Try.func9
    (ChangeSpec.witness6 (enc := enc) (C := Try.checked) false ⟨#[], #[.agg #[.int .i64 0, .int .i64 0], .int .i64 0, .agg #[.int .i64 0, .int .i64 0]], []⟩ 8 (by kernel_rfl) (by kernel_rfl) (by kernel_rfl) (by kernel_rfl)) ?_
  intro W base args ds gs before hval0 hW hcnd _
  have hval : ∀ (j : Nat) t v, Try.f9.params[j]? = some t → args[j]? = some v → Value.okWide Try.prog W .any base t v := hval0
  have hW' := hW
  obtain ⟨p, q, hA0, hV, rfl, hfz, hnd⟩ := hW
  have hA : DataW.TrodAll enc Try.prog W 0 (fun _ => true) true Try.f9.params.toList args.toList ds p := hA0
  rw [Try.params9] at hA hval
  obtain ⟨v0, vs0, d0, ds0, p0, q0, hargs, rfl, rfl, h0, r0⟩ := trodAll_cons hA
  obtain ⟨v1, vs1, d1, ds1, p1, q1, rfl, rfl, rfl, h1, r1⟩ := trodAll_cons r0
  obtain ⟨v2, vs2, d2, ds2, p2, q2, rfl, rfl, rfl, h2, r2⟩ := trodAll_cons r1
  obtain ⟨rfl, rfl, rfl⟩ := trodAll_nil r2
  obtain rfl : args = #[v0, v1, v2] := by cases args; simp_all
  obtain ⟨rfl, rfl⟩ := trodVars_none hV
  have lt0 : ∀ x ∈ p0, x.block < W.heap.size := by obtain ⟨m, hm⟩ := h0; exact DataW.trod_lt m _ _ _ hm
  have lt1 : ∀ x ∈ p1, x.block < W.heap.size := by obtain ⟨m, hm⟩ := h1; exact DataW.trod_lt m _ _ _ hm
  have lt2 : ∀ x ∈ p2, x.block < W.heap.size := by obtain ⟨m, hm⟩ := h2; exact DataW.trod_lt m _ _ _ hm
  have hw := fitNearer_row enc W base v0 d0 p0 (hval 0 28 v0 rfl rfl) h0 v1 d1 p1 (hval 1 3 v1 rfl rfl) h1 v2 d2 p2 (hval 2 28 v2 rfl rfl) h2
  clear hA0 hval0
  refine hw.mono fun e W' ⟨he, bel⟩ => ?_
  subst he
  exact ⟨_, rfl, _, _, _, [], _, [], hW', trodAll_mk1 (shut_bool Try.underlying4 _), (trodAll_cons_mk (Below.trod fitNearer_laidOut (by kernel_rfl) (of_decide_eq_true (by kernel_rfl)) h0 bel lt0) (trodAll_cons_mk (Below.trod fitNearer_laidOut (by kernel_rfl) (of_decide_eq_true (by kernel_rfl)) h1 bel lt1) (trodAll_cons_mk (Below.trod fitNearer_laidOut (by kernel_rfl) (of_decide_eq_true (by kernel_rfl)) h2 bel lt2) trodAll_mk0))), rfl, Below.frame bel _, fun h => by cases h⟩

/-- The statement. -/
theorem fitNearer_holds : Rows.FitNearerSaid :=
  OpenClaim.holds_of_wide 9 Try.f9 rfl rfl rfl rfl rfl rfl rfl ⟨rfl, rfl, rfl, rfl, rfl⟩ rfl rfl rfl rfl rfl (by kernel_rfl) Try.func9 (by kernel_rfl)
    (of_decide_eq_true (by kernel_rfl)) (by unfold Func.isWrapper; first | (rw [if_pos (by decide +kernel)]; kernel_rfl) | (rw [if_neg (by decide +kernel)]; exact ⟨rfl, rfl⟩))
    (fun os started H enc _ => fitNearer_lifted os started H enc)

end Go.Proofs.Ytkabfefphdgppaa
