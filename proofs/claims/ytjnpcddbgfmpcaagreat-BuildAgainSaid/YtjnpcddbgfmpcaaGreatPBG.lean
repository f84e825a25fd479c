/-
  Texts of the proof, part 33 of 39.
-/
import Derived.Test.YtjnpcddbgfmpcaaGreatPBF

/-
  The builder in memory: indirect numbers. Conditions: the builder lies in memory.
-/
namespace Go.Proofs.YtjnpcddbgfmpcaaGreat
open Go Go.ChangeShapes Go.WideShapes Go.ChangeAt Go.RowKit Go.Joins Go.Deep
open Go.Proofs.YtjnpcddbgfmpcaaGreat.Ft (V3 vV okV ValsAt inlineB legalB packF codeF typedF allF)
set_option linter.unusedVariables false
set_option linter.unusedSimpArgs false
section
variable {B : Nat} {q : Ptrs} {most flags : Int} {κ0 : Nat → Nat} {x : BS} {w w0 : World} {Kp : List (Nat × Obj)}
theorem Env.buflen (h : Env B q most flags w0 κ0 Kp x w) : Calls Tryz.prog 67 #[bptr q.b] w fun r w' => r = .returned (.int .i64 x.s.1.length) ∧ w' = w := by
  obtain ⟨κ, hb, _⟩ := h
  exact Go.Proofs.YtjnpcddbgfmpcaaGreat.buflen hb
theorem Env.buferr (h : Env B q most flags w0 κ0 Kp x w) : Calls Tryz.prog 109 #[bptr q.b] w fun r w' => r = .returned (.int .i64 x.s.2) ∧ w' = w := by
  obtain ⟨κ, hb, _⟩ := h
  exact Go.Proofs.YtjnpcddbgfmpcaaGreat.buferr hb
theorem Env.ok (h : Env B q most flags w0 κ0 Kp x w) : x.Ok most := by obtain ⟨κ, hb, _⟩ := h; exact hb.ok
theorem Env.len (h : Env B q most flags w0 κ0 Kp x w) : x.s.1.length ≤ 1048576 := by have := h.ok.len; have := h.ok.m1; omega
end
theorem blow_any (n x : Int) (w : World) (hx : isW x = true) (n0 : 0 ≤ n) (n1 : n ≤ 18446744073709551615) : Calls Tryz.prog 70 #[.int .u64 n, .int .i64 x] w fun r w' => r = .returned (.int .u64 (lowF n x)) ∧ w' = w := by
  rcases isW_cases hx with rfl | rfl | rfl | rfl
  all_goals
    clear hx
    go_enter Tryz.func70, Tryz.ntmps70
    go_wp2
    go_ret
    refine ⟨ret_int ?_, rfl⟩
    unfold lowF
    first
      | (show n = _; rw [Int.emod_eq_of_lt n0 (by simp; omega)])
      | (show IntKind.u64.wrap _ / _ = _
         simp [IntKind.wrap, IntKind.bits, IntKind.signed]
         omega)
theorem u64_len (n : Nat) (h : n ≤ 1048576) : IntKind.u64.wrap (n : Int) = n := by simp [IntKind.wrap, IntKind.bits, IntKind.signed]; omega
set_option maxRecDepth 100000 in
set_option maxHeartbeats 4000000 in
theorem apart1_any {B : Nat} {q : Ptrs} {most flags : Int} {κ : Nat → Nat} {x : BS} {w : World} (n1 n2 n3 : Nat) (t ty wd u : Int) (hw : isW wd = true) (hv : okV (ty, wd, u)) (ht0 : -9223372036854775808 ≤ t) (ht1 : t ≤ 9223372036854775807) (hx : x.e = 0) (he : Env B q most flags w κ [(n3, Obj.cells #[.int .i64 ty, .int .i64 wd, .int .u64 u] 92 (0, 0)), (n2, Obj.cells #[.int .i64 t] 3 (0, 0)), (n1, Obj.cells #[bptr q.p] 23 (0, 0))] x w) : Calls Tryz.prog 160 #[.pointer (some ⟨n1, 0, none⟩), .pointer (some ⟨n3, 0, none⟩), .pointer (some ⟨n2, 0, none⟩)] w fun r w' => r = .returned (.tuple #[]) ∧ TurnX B q most flags κ (x.apart most t (ty, wd, u)) w w' := by
  have HE := Lib.hid he
  have HY : Hid (x.apart most t (ty, wd, u) = (BS.push (t, wd, ((alignS most wd x.s).1.length : Int)) { x with s := numS most wd (lowF u wd) (alignS most wd x.s) })) := by show _ = _; unfold BS.apart; rw [if_pos hx]
  have HIW := Lib.hid hw
  have HU : Hid (0 ≤ u ∧ u ≤ 18446744073709551615) := by unfold okV at hv; dsimp only at hv; show _ ∧ _; omega
  have HLO := Lib.hid (lowF_ok (x := wd) HU.out.1 HU.out.2)
  have HLN : Hid ((alignS most wd x.s).1.length ≤ 1048576) := by have h1 := alignS_le (x := wd) he.ok.len; have h2 := he.ok.m1; show _ ≤ _; omega
  have HVT : Hid (okV (t, wd, ((alignS most wd x.s).1.length : Int))) := by have h := HLN.out; show (0 : Int) ≤ ((alignS most wd x.s).1.length : Int) ∧ ((alignS most wd x.s).1.length : Int) ≤ 18446744073709551615; omega
  have hwa := u64_len _ HLN.out
  have HM3 : Hid ((n3, Obj.cells #[.int .i64 ty, .int .i64 wd, .int .u64 u] 92 (0, 0)) ∈ ([(n3, Obj.cells #[.int .i64 ty, .int .i64 wd, .int .u64 u] 92 (0, 0)), (n2, Obj.cells #[.int .i64 t] 3 (0, 0)), (n1, Obj.cells #[bptr q.p] 23 (0, 0))] : List (Nat × Obj))) := List.mem_cons_self
  have HM2 : Hid ((n2, Obj.cells #[.int .i64 t] 3 (0, 0)) ∈ ([(n3, Obj.cells #[.int .i64 ty, .int .i64 wd, .int .u64 u] 92 (0, 0)), (n2, Obj.cells #[.int .i64 t] 3 (0, 0)), (n1, Obj.cells #[bptr q.p] 23 (0, 0))] : List (Nat × Obj))) := List.mem_cons_of_mem _ (List.mem_cons_self)
  have HM1 : Hid ((n1, Obj.cells #[bptr q.p] 23 (0, 0)) ∈ ([(n3, Obj.cells #[.int .i64 ty, .int .i64 wd, .int .u64 u] 92 (0, 0)), (n2, Obj.cells #[.int .i64 t] 3 (0, 0)), (n1, Obj.cells #[bptr q.p] 23 (0, 0))] : List (Nat × Obj))) := List.mem_cons_of_mem _ (List.mem_cons_of_mem _ (List.mem_cons_self))
  clear he hw hv ht0 ht1 hx
  go_enter Tryz.func160, Tryz.ntmps160
  go_wp2_with fail
  refine wp_region_phases [7] (EnvW B q most flags w κ [(n3, Obj.cells #[.int .i64 ty, .int .i64 wd, .int .u64 u] 92 (0, 0)), (n2, Obj.cells #[.int .i64 t] 3 (0, 0)), (n1, Obj.cells #[bptr q.p] 23 (0, 0))] [x] ({ x with s := alignS most wd x.s })) (fun _ w w' => Grew w w') ((fun p (_ : Nat → Value) => (fun _ _ _ => True) p)) [[], [0], [0, 1], [0, 1, 2], [0, 1, 2, 3], [], [5], [0, 1, 2, 3, 4, 5, 6]] [[(9, 5), (10, 6)], [(4, 0), (9, 5), (10, 6)], [(4, 0), (5, 1), (9, 5), (10, 6)], [(4, 0), (5, 1), (6, 2), (9, 5), (10, 6)], [(4, 0), (5, 1), (6, 2), (7, 3), (9, 5), (10, 6)], [(4, 0), (5, 1), (6, 2), (7, 3), (8, 4)], [(4, 0), (5, 1), (6, 2), (7, 3), (8, 4), (9, 5)], [(4, 0), (5, 1), (6, 2), (7, 3), (8, 4), (9, 5), (10, 6)]] [(4, 0), (5, 1), (6, 2), (7, 3), (8, 4), (9, 5), (10, 6), (11, 7)]
    [IsP (bptr q.p), IsP (bptr q.p), IsP (bptr q.p), IsP (bptr q.p), IsP (bptr q.b), IsP (.pointer (some ⟨n3, 1, none⟩)), IsP (.int .i64 wd), IsP (.tuple #[])]
    (by kernel_rfl) (EnvW.grew) (HE.out.grew (Grew.refl _).drew) (by kernel_rfl) (by kernel_rfl) ⟨isP_st, isP_st, isP_st, isP_st, isP_st, isP_st, isP_st, isP_st, trivial⟩ rfl ?_ ?_
  · intro y w2 hW hF
    simp only [factsP, IsP, Nat.reduceAdd, List.length_cons, List.length_nil] at hF hW
    have h0 := hF.1
    have h1 := hF.2.1
    have h2 := hF.2.2.1
    have h3 := hF.2.2.2.1
    have h4 := hF.2.2.2.2.1
    have h5 := hF.2.2.2.2.2.1
    have h6 := hF.2.2.2.2.2.2.1
    have h7 := hF.2.2.2.2.2.2.2.1
    clear hF
    simp only [fillL, Act.put, List.setIfInBounds_toArray, List.set_cons_zero, List.set_cons_succ, List.getD_cons_zero, List.getD_cons_succ]
    simp only [h0, h1, h2, h3, h4, h5, h6, h7]
    clear h0 h1 h2 h3 h4 h5 h6 h7
    have HE1 : Hid (Env B q most flags w κ [(n3, Obj.cells #[.int .i64 ty, .int .i64 wd, .int .u64 u] 92 (0, 0)), (n2, Obj.cells #[.int .i64 t] 3 (0, 0)), (n1, Obj.cells #[bptr q.p] 23 (0, 0))] ({ x with s := alignS most wd x.s }) w2) := hW
    have c0 := HE1.out.at0
    have cb := Env.cell HE1.out HM1.out 0 _ rfl
    go_wp2_with fail
    refine HE1.out.buflen.mono ?_
    rintro r w9 ⟨rfl, hw9⟩
    obtain rfl : w2 = w9 := hw9.symm
    clear c0 cb
    go_wp2_with fail
    refine wp_region_phases [12] (EnvW B q most flags w κ [(n3, Obj.cells #[.int .i64 ty, .int .i64 wd, .int .u64 u] 92 (0, 0)), (n2, Obj.cells #[.int .i64 t] 3 (0, 0)), (n1, Obj.cells #[bptr q.p] 23 (0, 0))] [{ x with s := alignS most wd x.s }] ({ x with s := numS most wd (lowF u wd) (alignS most wd x.s) })) (fun _ w w' => Grew w w') ((fun p (_ : Nat → Value) => (fun _ _ _ => True) p)) [[], [0], [0, 1], [0, 1, 2], [0, 1, 2, 3], [], [5], [], [7], [], [9], [7, 8, 9, 10], [0, 1, 2, 3, 4, 5, 6, 7, 8, 9, 10, 11]] [[(23, 5), (24, 6), (25, 7), (26, 8), (27, 9), (28, 10), (29, 11)], [(18, 0), (23, 5), (24, 6), (25, 7), (26, 8), (27, 9), (28, 10), (29, 11)], [(18, 0), (19, 1), (23, 5), (24, 6), (25, 7), (26, 8), (27, 9), (28, 10), (29, 11)], [(18, 0), (19, 1), (20, 2), (23, 5), (24, 6), (25, 7), (26, 8), (27, 9), (28, 10), (29, 11)], [(18, 0), (19, 1), (20, 2), (21, 3), (23, 5), (24, 6), (25, 7), (26, 8), (27, 9), (28, 10), (29, 11)], [(18, 0), (19, 1), (20, 2), (21, 3), (22, 4), (25, 7), (26, 8), (27, 9), (28, 10), (29, 11)], [(18, 0), (19, 1), (20, 2), (21, 3), (22, 4), (23, 5), (25, 7), (26, 8), (27, 9), (28, 10), (29, 11)], [(18, 0), (19, 1), (20, 2), (21, 3), (22, 4), (23, 5), (24, 6), (27, 9), (28, 10)], [(18, 0), (19, 1), (20, 2), (21, 3), (22, 4), (23, 5), (24, 6), (25, 7), (27, 9), (28, 10)], [(18, 0), (19, 1), (20, 2), (21, 3), (22, 4), (23, 5), (24, 6), (25, 7), (26, 8)], [(18, 0), (19, 1), (20, 2), (21, 3), (22, 4), (23, 5), (24, 6), (25, 7), (26, 8), (27, 9)], [(18, 0), (19, 1), (20, 2), (21, 3), (22, 4), (23, 5), (24, 6), (25, 7), (26, 8), (27, 9), (28, 10)], [(18, 0), (19, 1), (20, 2), (21, 3), (22, 4), (23, 5), (24, 6), (25, 7), (26, 8), (27, 9), (28, 10), (29, 11)]] [(18, 0), (19, 1), (20, 2), (21, 3), (22, 4), (23, 5), (24, 6), (25, 7), (26, 8), (27, 9), (28, 10), (29, 11), (30, 12)]
      [IsP (bptr q.p), IsP (bptr q.p), IsP (bptr q.p), IsP (bptr q.p), IsP (bptr q.b), IsP (.pointer (some ⟨n3, 1, none⟩)), IsP (.int .i64 wd), IsP (.pointer (some ⟨n3, 2, none⟩)), IsP (.int .u64 u), IsP (.pointer (some ⟨n3, 1, none⟩)), IsP (.int .i64 wd), IsP (.int .u64 (lowF u wd)), IsP (.tuple #[])]
      (by kernel_rfl) (EnvW.grew) (HE1.out.grew (Grew.refl _).drew) (by kernel_rfl) (by kernel_rfl) ⟨isP_st, isP_st, isP_st, isP_st, isP_st, isP_st, isP_st, isP_st, isP_st, isP_st, isP_st, isP_st, isP_st, trivial⟩ rfl ?_ ?_
    · intro y w2 hW hF
      simp only [factsP, IsP, Nat.reduceAdd, List.length_cons, List.length_nil] at hF hW
      have h0 := hF.1
      have h1 := hF.2.1
      have h2 := hF.2.2.1
      have h3 := hF.2.2.2.1
      have h4 := hF.2.2.2.2.1
      have h5 := hF.2.2.2.2.2.1
      have h6 := hF.2.2.2.2.2.2.1
      have h7 := hF.2.2.2.2.2.2.2.1
      have h8 := hF.2.2.2.2.2.2.2.2.1
      have h9 := hF.2.2.2.2.2.2.2.2.2.1
      have h10 := hF.2.2.2.2.2.2.2.2.2.2.1
      have h11 := hF.2.2.2.2.2.2.2.2.2.2.2.1
      have h12 := hF.2.2.2.2.2.2.2.2.2.2.2.2.1
      clear hF
      simp only [fillL, Act.put, List.setIfInBounds_toArray, List.set_cons_zero, List.set_cons_succ, List.getD_cons_zero, List.getD_cons_succ]
      simp only [h0, h1, h2, h3, h4, h5, h6, h7, h8, h9, h10, h11, h12]
      clear h0 h1 h2 h3 h4 h5 h6 h7 h8 h9 h10 h11 h12
      have HE2 : Hid (Env B q most flags w κ [(n3, Obj.cells #[.int .i64 ty, .int .i64 wd, .int .u64 u] 92 (0, 0)), (n2, Obj.cells #[.int .i64 t] 3 (0, 0)), (n1, Obj.cells #[bptr q.p] 23 (0, 0))] ({ x with s := numS most wd (lowF u wd) (alignS most wd x.s) }) w2) := hW
      go_wp2_with fail
      refine wp_region_phases [9] (EnvW B q most flags w κ [(n3, Obj.cells #[.int .i64 ty, .int .i64 wd, .int .u64 u] 92 (0, 0)), (n2, Obj.cells #[.int .i64 t] 3 (0, 0)), (n1, Obj.cells #[bptr q.p] 23 (0, 0))] [{ x with s := numS most wd (lowF u wd) (alignS most wd x.s) }] ((BS.push (t, wd, ((alignS most wd x.s).1.length : Int)) { x with s := numS most wd (lowF u wd) (alignS most wd x.s) }))) (fun _ w w' => Grew w w') ((fun p (_ : Nat → Value) => (fun _ _ _ => True) p)) [[], [0], [0, 1], [], [], [4], [], [6], [3, 4, 5, 6, 7], [0, 1, 2, 3, 4, 5, 6, 7, 8]] [[(34, 3), (35, 4), (36, 5), (37, 6), (38, 7), (39, 8)], [(31, 0), (34, 3), (35, 4), (36, 5), (37, 6), (38, 7), (39, 8)], [(31, 0), (32, 1), (34, 3), (35, 4), (36, 5), (37, 6), (38, 7), (39, 8)], [(31, 0), (32, 1), (33, 2), (35, 4), (36, 5), (37, 6), (38, 7)], [(31, 0), (32, 1), (33, 2), (34, 3), (37, 6), (38, 7)], [(31, 0), (32, 1), (33, 2), (34, 3), (35, 4), (37, 6), (38, 7)], [(31, 0), (32, 1), (33, 2), (34, 3), (35, 4), (36, 5)], [(31, 0), (32, 1), (33, 2), (34, 3), (35, 4), (36, 5), (37, 6)], [(31, 0), (32, 1), (33, 2), (34, 3), (35, 4), (36, 5), (37, 6), (38, 7)], [(31, 0), (32, 1), (33, 2), (34, 3), (35, 4), (36, 5), (37, 6), (38, 7), (39, 8)]] [(31, 0), (32, 1), (33, 2), (34, 3), (35, 4), (36, 5), (37, 6), (38, 7), (39, 8), (40, 9)]
        [IsP (bptr q.p), IsP (bptr q.p), IsP (bptr q.p), IsP (.int .i64 t), IsP (.pointer (some ⟨n3, 1, none⟩)), IsP (.int .i64 wd), IsP (.int .i64 (alignS most wd x.s).1.length), IsP (.int .u64 (alignS most wd x.s).1.length), IsP (.agg #[.int .i64 t, .int .i64 wd, .int .u64 (alignS most wd x.s).1.length]), IsP (.tuple #[])]
        (by kernel_rfl) (EnvW.grew) (HE2.out.grew (Grew.refl _).drew) (by kernel_rfl) (by kernel_rfl) ⟨isP_st, isP_st, isP_st, isP_st, isP_st, isP_st, isP_st, isP_st, isP_st, isP_st, trivial⟩ rfl ?_ ?_
      · intro y w2 hW hF
        simp only [factsP, IsP, Nat.reduceAdd, List.length_cons, List.length_nil] at hF hW
        have h0 := hF.1
        have h1 := hF.2.1
        have h2 := hF.2.2.1
        have h3 := hF.2.2.2.1
        have h4 := hF.2.2.2.2.1
        have h5 := hF.2.2.2.2.2.1
        have h6 := hF.2.2.2.2.2.2.1
        have h7 := hF.2.2.2.2.2.2.2.1
        have h8 := hF.2.2.2.2.2.2.2.2.1
        have h9 := hF.2.2.2.2.2.2.2.2.2.1
        clear hF
        simp only [fillL, Act.put, List.setIfInBounds_toArray, List.set_cons_zero, List.set_cons_succ, List.getD_cons_zero, List.getD_cons_succ]
        simp only [h0, h1, h2, h3, h4, h5, h6, h7, h8, h9]
        clear h0 h1 h2 h3 h4 h5 h6 h7 h8 h9
        go_wp2
        go_end0
        exact ⟨rfl, by rw [HY.out]; exact Env.turn hW⟩
      refine ⟨?_, ?_⟩
      · refine wordP_read 0 0 (by kernel_rfl) (by kernel_rfl) (by kernel_rfl) ?_
        intro y w2 p hlo hhi hW hD K hK
        obtain rfl : p = 0 := by omega
        have d10 := Env.cell hW HM1.out 0 _ rfl
        clear hD
        generalize hAA : fillL y _ _ = AA at hK ⊢
        simp only [fillL, Act.put, List.setIfInBounds_toArray, List.set_cons_zero, List.set_cons_succ, List.getD_cons_zero, List.getD_cons_succ, IsP] at hAA
        subst hAA
        simp only [List.getD_cons_zero, List.getD_cons_succ, IsP] at hK
        refine ite_yes (by rfl) ?_
        go_simp
        exact hK _ _ _ rfl (Grew.refl _) rfl
      refine ⟨?_, ?_⟩
      · refine wordP_read 0 0 (by kernel_rfl) (by kernel_rfl) (by kernel_rfl) ?_
        intro y w2 p hlo hhi hW hD K hK
        simp only [depsP, List.getD_cons_zero, List.getD_cons_succ, IsP] at hD
        have h0 := hD.1
        clear hD
        generalize hAA : fillL y _ _ = AA at hK ⊢
        simp only [fillL, Act.put, List.setIfInBounds_toArray, List.set_cons_zero, List.set_cons_succ, List.getD_cons_zero, List.getD_cons_succ, IsP] at hAA
        subst hAA
        simp only [List.getD_cons_zero, List.getD_cons_succ, IsP] at hK
        simp only [h0] at hK ⊢
        clear h0
        refine ite_yes (by rfl) ?_
        go_simp
        exact hK _ _ _ rfl (Grew.refl _) rfl
      refine ⟨?_, ?_⟩
      · refine wordP_read 0 0 (by kernel_rfl) (by kernel_rfl) (by kernel_rfl) ?_
        intro y w2 p hlo hhi hW hD K hK
        simp only [depsP, List.getD_cons_zero, List.getD_cons_succ, IsP] at hD
        have h0 := hD.1
        have h1 := hD.2.1
        clear hD
        generalize hAA : fillL y _ _ = AA at hK ⊢
        simp only [fillL, Act.put, List.setIfInBounds_toArray, List.set_cons_zero, List.set_cons_succ, List.getD_cons_zero, List.getD_cons_succ, IsP] at hAA
        subst hAA
        simp only [List.getD_cons_zero, List.getD_cons_succ, IsP] at hK
        simp only [h0, h1] at hK ⊢
        clear h0 h1
        refine ite_yes (by rfl) ?_
        go_simp
        exact hK _ _ _ rfl (Grew.refl _) rfl
      refine ⟨?_, ?_⟩
      · refine wordP_read 0 0 (by kernel_rfl) (by kernel_rfl) (by kernel_rfl) ?_
        intro y w2 p hlo hhi hW hD K hK
        obtain rfl : p = 0 := by omega
        have d20 := Env.cell hW HM2.out 0 _ rfl
        clear hD
        generalize hAA : fillL y _ _ = AA at hK ⊢
        simp only [fillL, Act.put, List.setIfInBounds_toArray, List.set_cons_zero, List.set_cons_succ, List.getD_cons_zero, List.getD_cons_succ, IsP] at hAA
        subst hAA
        simp only [List.getD_cons_zero, List.getD_cons_succ, IsP] at hK
        refine ite_yes (by rfl) ?_
        go_simp
        exact hK _ _ _ rfl (Grew.refl _) rfl
      refine ⟨?_, ?_⟩
      · refine wordP_read 0 0 (by kernel_rfl) (by kernel_rfl) (by kernel_rfl) ?_
        intro y w2 p hlo hhi hW hD K hK
        clear hD
        generalize hAA : fillL y _ _ = AA at hK ⊢
        simp only [fillL, Act.put, List.setIfInBounds_toArray, List.set_cons_zero, List.set_cons_succ, List.getD_cons_zero, List.getD_cons_succ, IsP] at hAA
        subst hAA
        simp only [List.getD_cons_zero, List.getD_cons_succ, IsP] at hK
        refine ite_yes (by rfl) ?_
        go_simp
        exact hK _ _ _ rfl (Grew.refl _) rfl
      refine ⟨?_, ?_⟩
      · refine wordP_read 0 0 (by kernel_rfl) (by kernel_rfl) (by kernel_rfl) ?_
        intro y w2 p hlo hhi hW hD K hK
        obtain rfl : p = 0 := by omega
        have d31 := Env.cell hW HM3.out 1 _ rfl
        simp only [depsP, List.getD_cons_zero, List.getD_cons_succ, IsP] at hD
        have h4 := hD.1
        clear hD
        generalize hAA : fillL y _ _ = AA at hK ⊢
        simp only [fillL, Act.put, List.setIfInBounds_toArray, List.set_cons_zero, List.set_cons_succ, List.getD_cons_zero, List.getD_cons_succ, IsP] at hAA
        subst hAA
        simp only [List.getD_cons_zero, List.getD_cons_succ, IsP] at hK
        simp only [h4] at hK ⊢
        clear h4
        refine ite_yes (by rfl) ?_
        go_simp
        exact hK _ _ _ rfl (Grew.refl _) rfl
      refine ⟨?_, ?_⟩
      · refine wordP_read 0 0 (by kernel_rfl) (by kernel_rfl) (by kernel_rfl) ?_
        intro y w2 p hlo hhi hW hD K hK
        clear hD
        generalize hAA : fillL y _ _ = AA at hK ⊢
        simp only [fillL, Act.put, List.setIfInBounds_toArray, List.set_cons_zero, List.set_cons_succ, List.getD_cons_zero, List.getD_cons_succ, IsP] at hAA
        subst hAA
        simp only [List.getD_cons_zero, List.getD_cons_succ, IsP] at hK
        refine ite_yes (by rfl) ?_
        go_simp
        exact hK _ _ _ rfl (Grew.refl _) rfl
      refine ⟨?_, ?_⟩
      · refine wordP_read 0 0 (by kernel_rfl) (by kernel_rfl) (by kernel_rfl) ?_
        intro y w2 p hlo hhi hW hD K hK
        simp only [depsP, List.getD_cons_zero, List.getD_cons_succ, IsP] at hD
        have h6 := hD.1
        clear hD
        generalize hAA : fillL y _ _ = AA at hK ⊢
        simp only [fillL, Act.put, List.setIfInBounds_toArray, List.set_cons_zero, List.set_cons_succ, List.getD_cons_zero, List.getD_cons_succ, IsP] at hAA
        subst hAA
        simp only [List.getD_cons_zero, List.getD_cons_succ, IsP] at hK
        simp only [h6] at hK ⊢
        clear h6
        refine ite_yes (by rfl) ?_
        go_simp
        exact hK _ _ _ rfl (Grew.refl _) rfl
      refine ⟨?_, ?_⟩
      · refine wordP_read 0 0 (by kernel_rfl) (by kernel_rfl) (by kernel_rfl) ?_
        intro y w2 p hlo hhi hW hD K hK
        simp only [depsP, List.getD_cons_zero, List.getD_cons_succ, IsP] at hD
        have h3 := hD.1
        have h4 := hD.2.1
        have h5 := hD.2.2.1
        have h6 := hD.2.2.2.1
        have h7 := hD.2.2.2.2.1
        clear hD
        generalize hAA : fillL y _ _ = AA at hK ⊢
        simp only [fillL, Act.put, List.setIfInBounds_toArray, List.set_cons_zero, List.set_cons_succ, List.getD_cons_zero, List.getD_cons_succ, IsP] at hAA
        subst hAA
        simp only [List.getD_cons_zero, List.getD_cons_succ, IsP] at hK
        simp only [h3, h4, h5, h6, h7] at hK ⊢
        clear h3 h4 h5 h6 h7
        refine ite_yes (by rfl) ?_
        go_simp
        exact hK _ _ _ rfl (Grew.refl _) rfl
      refine ⟨?_, ?_⟩
      · refine wordP_write 0 rfl ?_
        intro y w2 hW hD K hK
        simp only [depsP, List.getD_cons_zero, List.getD_cons_succ, IsP] at hD
        have h0 := hD.1
        have h1 := hD.2.1
        have h2 := hD.2.2.1
        have h3 := hD.2.2.2.1
        have h4 := hD.2.2.2.2.1
        have h5 := hD.2.2.2.2.2.1
        have h6 := hD.2.2.2.2.2.2.1
        have h7 := hD.2.2.2.2.2.2.2.1
        have h8 := hD.2.2.2.2.2.2.2.2.1
        clear hD
        generalize hAA : fillL y _ _ = AA at hK ⊢
        simp only [fillL, Act.put, List.setIfInBounds_toArray, List.set_cons_zero, List.set_cons_succ, List.getD_cons_zero, List.getD_cons_succ, IsP] at hAA
        subst hAA
        simp only [List.getD_cons_zero, List.getD_cons_succ, IsP] at hK
        simp only [h0, h1, h2, h3, h4, h5, h6, h7, h8] at hK ⊢
        clear h0 h1 h2 h3 h4 h5 h6 h7 h8
        refine ite_yes (by rfl) ?_
        go_simp
        refine (Env.call hW fun κ1 hb hz => ppush_any (t, wd, ((alignS most wd x.s).1.length : Int)) HVT.out hb).mono ?_
        rintro r w3 ⟨rfl, he⟩
        exact hK _ _ _ rfl trivial he rfl
      trivial
    refine ⟨?_, ?_⟩
    · refine wordP_read 0 0 (by kernel_rfl) (by kernel_rfl) (by kernel_rfl) ?_
      intro y w2 p hlo hhi hW hD K hK
      obtain rfl : p = 0 := by omega
      have d10 := Env.cell hW HM1.out 0 _ rfl
      clear hD
      generalize hAA : fillL y _ _ = AA at hK ⊢
      simp only [fillL, Act.put, List.setIfInBounds_toArray, List.set_cons_zero, List.set_cons_succ, List.getD_cons_zero, List.getD_cons_succ, IsP] at hAA
      subst hAA
      simp only [List.getD_cons_zero, List.getD_cons_succ, IsP] at hK
      refine ite_yes (by rfl) ?_
      go_simp
      exact hK _ _ _ rfl (Grew.refl _) rfl
    refine ⟨?_, ?_⟩
    · refine wordP_read 0 0 (by kernel_rfl) (by kernel_rfl) (by kernel_rfl) ?_
      intro y w2 p hlo hhi hW hD K hK
      simp only [depsP, List.getD_cons_zero, List.getD_cons_succ, IsP] at hD
      have h0 := hD.1
      clear hD
      generalize hAA : fillL y _ _ = AA at hK ⊢
      simp only [fillL, Act.put, List.setIfInBounds_toArray, List.set_cons_zero, List.set_cons_succ, List.getD_cons_zero, List.getD_cons_succ, IsP] at hAA
      subst hAA
      simp only [List.getD_cons_zero, List.getD_cons_succ, IsP] at hK
      simp only [h0] at hK ⊢
      clear h0
      refine ite_yes (by rfl) ?_
      go_simp
      exact hK _ _ _ rfl (Grew.refl _) rfl
    refine ⟨?_, ?_⟩
    · refine wordP_read 0 0 (by kernel_rfl) (by kernel_rfl) (by kernel_rfl) ?_
      intro y w2 p hlo hhi hW hD K hK
      simp only [depsP, List.getD_cons_zero, List.getD_cons_succ, IsP] at hD
      have h0 := hD.1
      have h1 := hD.2.1
      clear hD
      generalize hAA : fillL y _ _ = AA at hK ⊢
      simp only [fillL, Act.put, List.setIfInBounds_toArray, List.set_cons_zero, List.set_cons_succ, List.getD_cons_zero, List.getD_cons_succ, IsP] at hAA
      subst hAA
      simp only [List.getD_cons_zero, List.getD_cons_succ, IsP] at hK
      simp only [h0, h1] at hK ⊢
      clear h0 h1
      refine ite_yes (by rfl) ?_
      go_simp
      exact hK _ _ _ rfl (Grew.refl _) rfl
    refine ⟨?_, ?_⟩
    · refine wordP_read 0 0 (by kernel_rfl) (by kernel_rfl) (by kernel_rfl) ?_
      intro y w2 p hlo hhi hW hD K hK
      simp only [depsP, List.getD_cons_zero, List.getD_cons_succ, IsP] at hD
      have h0 := hD.1
      have h1 := hD.2.1
      have h2 := hD.2.2.1
      clear hD
      generalize hAA : fillL y _ _ = AA at hK ⊢
      simp only [fillL, Act.put, List.setIfInBounds_toArray, List.set_cons_zero, List.set_cons_succ, List.getD_cons_zero, List.getD_cons_succ, IsP] at hAA
      subst hAA
      simp only [List.getD_cons_zero, List.getD_cons_succ, IsP] at hK
      simp only [h0, h1, h2] at hK ⊢
      clear h0 h1 h2
      refine ite_yes (by rfl) ?_
      go_simp
      exact hK _ _ _ rfl (Grew.refl _) rfl
    refine ⟨?_, ?_⟩
    · refine wordP_read 0 0 (by kernel_rfl) (by kernel_rfl) (by kernel_rfl) ?_
      intro y w2 p hlo hhi hW hD K hK
      obtain rfl : p = 0 := by omega
      have dd := Env.at0 hW
      simp only [depsP, List.getD_cons_zero, List.getD_cons_succ, IsP] at hD
      have h0 := hD.1
      have h1 := hD.2.1
      have h2 := hD.2.2.1
      have h3 := hD.2.2.2.1
      clear hD
      generalize hAA : fillL y _ _ = AA at hK ⊢
      simp only [fillL, Act.put, List.setIfInBounds_toArray, List.set_cons_zero, List.set_cons_succ, List.getD_cons_zero, List.getD_cons_succ, IsP] at hAA
      subst hAA
      simp only [List.getD_cons_zero, List.getD_cons_succ, IsP] at hK
      simp only [h0, h1, h2, h3] at hK ⊢
      clear h0 h1 h2 h3
      refine ite_yes (by rfl) ?_
      go_simp
      exact hK _ _ _ rfl (Grew.refl _) rfl
    refine ⟨?_, ?_⟩
    · refine wordP_read 0 0 (by kernel_rfl) (by kernel_rfl) (by kernel_rfl) ?_
      intro y w2 p hlo hhi hW hD K hK
      clear hD
      generalize hAA : fillL y _ _ = AA at hK ⊢
      simp only [fillL, Act.put, List.setIfInBounds_toArray, List.set_cons_zero, List.set_cons_succ, List.getD_cons_zero, List.getD_cons_succ, IsP] at hAA
      subst hAA
      simp only [List.getD_cons_zero, List.getD_cons_succ, IsP] at hK
      refine ite_yes (by rfl) ?_
      go_simp
      exact hK _ _ _ rfl (Grew.refl _) rfl
    refine ⟨?_, ?_⟩
    · refine wordP_read 0 0 (by kernel_rfl) (by kernel_rfl) (by kernel_rfl) ?_
      intro y w2 p hlo hhi hW hD K hK
      obtain rfl : p = 0 := by omega
      have d31 := Env.cell hW HM3.out 1 _ rfl
      simp only [depsP, List.getD_cons_zero, List.getD_cons_succ, IsP] at hD
      have h5 := hD.1
      clear hD
      generalize hAA : fillL y _ _ = AA at hK ⊢
      simp only [fillL, Act.put, List.setIfInBounds_toArray, List.set_cons_zero, List.set_cons_succ, List.getD_cons_zero, List.getD_cons_succ, IsP] at hAA
      subst hAA
      simp only [List.getD_cons_zero, List.getD_cons_succ, IsP] at hK
      simp only [h5] at hK ⊢
      clear h5
      refine ite_yes (by rfl) ?_
      go_simp
      exact hK _ _ _ rfl (Grew.refl _) rfl
    refine ⟨?_, ?_⟩
    · refine wordP_read 0 0 (by kernel_rfl) (by kernel_rfl) (by kernel_rfl) ?_
      intro y w2 p hlo hhi hW hD K hK
      clear hD
      generalize hAA : fillL y _ _ = AA at hK ⊢
      simp only [fillL, Act.put, List.setIfInBounds_toArray, List.set_cons_zero, List.set_cons_succ, List.getD_cons_zero, List.getD_cons_succ, IsP] at hAA
      subst hAA
      simp only [List.getD_cons_zero, List.getD_cons_succ, IsP] at hK
      refine ite_yes (by rfl) ?_
      go_simp
      exact hK _ _ _ rfl (Grew.refl _) rfl
    refine ⟨?_, ?_⟩
    · refine wordP_read 0 0 (by kernel_rfl) (by kernel_rfl) (by kernel_rfl) ?_
      intro y w2 p hlo hhi hW hD K hK
      obtain rfl : p = 0 := by omega
      have d32 := Env.cell hW HM3.out 2 _ rfl
      simp only [depsP, List.getD_cons_zero, List.getD_cons_succ, IsP] at hD
      have h7 := hD.1
      clear hD
      generalize hAA : fillL y _ _ = AA at hK ⊢
      simp only [fillL, Act.put, List.setIfInBounds_toArray, List.set_cons_zero, List.set_cons_succ, List.getD_cons_zero, List.getD_cons_succ, IsP] at hAA
      subst hAA
      simp only [List.getD_cons_zero, List.getD_cons_succ, IsP] at hK
      simp only [h7] at hK ⊢
      clear h7
      refine ite_yes (by rfl) ?_
      go_simp
      exact hK _ _ _ rfl (Grew.refl _) rfl
    refine ⟨?_, ?_⟩
    · refine wordP_read 0 0 (by kernel_rfl) (by kernel_rfl) (by kernel_rfl) ?_
      intro y w2 p hlo hhi hW hD K hK
      clear hD
      generalize hAA : fillL y _ _ = AA at hK ⊢
      simp only [fillL, Act.put, List.setIfInBounds_toArray, List.set_cons_zero, List.set_cons_succ, List.getD_cons_zero, List.getD_cons_succ, IsP] at hAA
      subst hAA
      simp only [List.getD_cons_zero, List.getD_cons_succ, IsP] at hK
      refine ite_yes (by rfl) ?_
      go_simp
      exact hK _ _ _ rfl (Grew.refl _) rfl
    refine ⟨?_, ?_⟩
    · refine wordP_read 0 0 (by kernel_rfl) (by kernel_rfl) (by kernel_rfl) ?_
      intro y w2 p hlo hhi hW hD K hK
      obtain rfl : p = 0 := by omega
      have d31 := Env.cell hW HM3.out 1 _ rfl
      simp only [depsP, List.getD_cons_zero, List.getD_cons_succ, IsP] at hD
      have h9 := hD.1
      clear hD
      generalize hAA : fillL y _ _ = AA at hK ⊢
      simp only [fillL, Act.put, List.setIfInBounds_toArray, List.set_cons_zero, List.set_cons_succ, List.getD_cons_zero, List.getD_cons_succ, IsP] at hAA
      subst hAA
      simp only [List.getD_cons_zero, List.getD_cons_succ, IsP] at hK
      simp only [h9] at hK ⊢
      clear h9
      refine ite_yes (by rfl) ?_
      go_simp
      exact hK _ _ _ rfl (Grew.refl _) rfl
    refine ⟨?_, ?_⟩
    · refine wordP_read 0 0 (by kernel_rfl) (by kernel_rfl) (by kernel_rfl) ?_
      intro y w2 p hlo hhi hW hD K hK
      simp only [depsP, List.getD_cons_zero, List.getD_cons_succ, IsP] at hD
      have h7 := hD.1
      have h8 := hD.2.1
      have h9 := hD.2.2.1
      have h10 := hD.2.2.2.1
      clear hD
      generalize hAA : fillL y _ _ = AA at hK ⊢
      simp only [fillL, Act.put, List.setIfInBounds_toArray, List.set_cons_zero, List.set_cons_succ, List.getD_cons_zero, List.getD_cons_succ, IsP] at hAA
      subst hAA
      simp only [List.getD_cons_zero, List.getD_cons_succ, IsP] at hK
      simp only [h7, h8, h9, h10] at hK ⊢
      clear h7 h8 h9 h10
      refine ite_yes (by rfl) ?_
      go_simp
      refine (blow_any u wd w2 HIW.out HU.out.1 HU.out.2).mono ?_
      rintro r w3 ⟨rfl, hw3⟩
      exact hK _ _ _ rfl (by rw [hw3]; exact Grew.refl _) rfl
    refine ⟨?_, ?_⟩
    · refine wordP_write 0 rfl ?_
      intro y w2 hW hD K hK
      simp only [depsP, List.getD_cons_zero, List.getD_cons_succ, IsP] at hD
      have h0 := hD.1
      have h1 := hD.2.1
      have h2 := hD.2.2.1
      have h3 := hD.2.2.2.1
      have h4 := hD.2.2.2.2.1
      have h5 := hD.2.2.2.2.2.1
      have h6 := hD.2.2.2.2.2.2.1
      have h7 := hD.2.2.2.2.2.2.2.1
      have h8 := hD.2.2.2.2.2.2.2.2.1
      have h9 := hD.2.2.2.2.2.2.2.2.2.1
      have h10 := hD.2.2.2.2.2.2.2.2.2.2.1
      have h11 := hD.2.2.2.2.2.2.2.2.2.2.2.1
      clear hD
      generalize hAA : fillL y _ _ = AA at hK ⊢
      simp only [fillL, Act.put, List.setIfInBounds_toArray, List.set_cons_zero, List.set_cons_succ, List.getD_cons_zero, List.getD_cons_succ, IsP] at hAA
      subst hAA
      simp only [List.getD_cons_zero, List.getD_cons_succ, IsP] at hK
      simp only [h0, h1, h2, h3, h4, h5, h6, h7, h8, h9, h10, h11] at hK ⊢
      clear h0 h1 h2 h3 h4 h5 h6 h7 h8 h9 h10 h11
      refine ite_yes (by rfl) ?_
      go_simp
      refine (Env.call hW fun κ1 hb hz => hb.buf_calls (x := { x with s := alignS most wd x.s }) (numS_le hb.ok.len) (fun o ho _ => num_any (alignS most wd x.s) wd (lowF u wd) ho (Nat.zero_le _) hb.ok.len hb.ok.m1 HLO.out.1 HLO.out.2)).mono ?_
      rintro r w3 ⟨rfl, he⟩
      exact hK _ _ _ rfl trivial he rfl
    trivial
  refine ⟨?_, ?_⟩
  · refine wordP_read 0 0 (by kernel_rfl) (by kernel_rfl) (by kernel_rfl) ?_
    intro y w2 p hlo hhi hW hD K hK
    obtain rfl : p = 0 := by omega
    have d10 := Env.cell hW HM1.out 0 _ rfl
    clear hD
    generalize hAA : fillL y _ _ = AA at hK ⊢
    simp only [fillL, Act.put, List.setIfInBounds_toArray, List.set_cons_zero, List.set_cons_succ, List.getD_cons_zero, List.getD_cons_succ, IsP] at hAA
    subst hAA
    simp only [List.getD_cons_zero, List.getD_cons_succ, IsP] at hK
    refine ite_yes (by rfl) ?_
    go_simp
    exact hK _ _ _ rfl (Grew.refl _) rfl
  refine ⟨?_, ?_⟩
  · refine wordP_read 0 0 (by kernel_rfl) (by kernel_rfl) (by kernel_rfl) ?_
    intro y w2 p hlo hhi hW hD K hK
    simp only [depsP, List.getD_cons_zero, List.getD_cons_succ, IsP] at hD
    have h0 := hD.1
    clear hD
    generalize hAA : fillL y _ _ = AA at hK ⊢
    simp only [fillL, Act.put, List.setIfInBounds_toArray, List.set_cons_zero, List.set_cons_succ, List.getD_cons_zero, List.getD_cons_succ, IsP] at hAA
    subst hAA
    simp only [List.getD_cons_zero, List.getD_cons_succ, IsP] at hK
    simp only [h0] at hK ⊢
    clear h0
    refine ite_yes (by rfl) ?_
    go_simp
    exact hK _ _ _ rfl (Grew.refl _) rfl
  refine ⟨?_, ?_⟩
  · refine wordP_read 0 0 (by kernel_rfl) (by kernel_rfl) (by kernel_rfl) ?_
    intro y w2 p hlo hhi hW hD K hK
    simp only [depsP, List.getD_cons_zero, List.getD_cons_succ, IsP] at hD
    have h0 := hD.1
    have h1 := hD.2.1
    clear hD
    generalize hAA : fillL y _ _ = AA at hK ⊢
    simp only [fillL, Act.put, List.setIfInBounds_toArray, List.set_cons_zero, List.set_cons_succ, List.getD_cons_zero, List.getD_cons_succ, IsP] at hAA
    subst hAA
    simp only [List.getD_cons_zero, List.getD_cons_succ, IsP] at hK
    simp only [h0, h1] at hK ⊢
    clear h0 h1
    refine ite_yes (by rfl) ?_
    go_simp
    exact hK _ _ _ rfl (Grew.refl _) rfl
  refine ⟨?_, ?_⟩
  · refine wordP_read 0 0 (by kernel_rfl) (by kernel_rfl) (by kernel_rfl) ?_
    intro y w2 p hlo hhi hW hD K hK
    simp only [depsP, List.getD_cons_zero, List.getD_cons_succ, IsP] at hD
    have h0 := hD.1
    have h1 := hD.2.1
    have h2 := hD.2.2.1
    clear hD
    generalize hAA : fillL y _ _ = AA at hK ⊢
    simp only [fillL, Act.put, List.setIfInBounds_toArray, List.set_cons_zero, List.set_cons_succ, List.getD_cons_zero, List.getD_cons_succ, IsP] at hAA
    subst hAA
    simp only [List.getD_cons_zero, List.getD_cons_succ, IsP] at hK
    simp only [h0, h1, h2] at hK ⊢
    clear h0 h1 h2
    refine ite_yes (by rfl) ?_
    go_simp
    exact hK _ _ _ rfl (Grew.refl _) rfl
  refine ⟨?_, ?_⟩
  · refine wordP_read 0 0 (by kernel_rfl) (by kernel_rfl) (by kernel_rfl) ?_
    intro y w2 p hlo hhi hW hD K hK
    obtain rfl : p = 0 := by omega
    have dd := Env.at0 hW
    simp only [depsP, List.getD_cons_zero, List.getD_cons_succ, IsP] at hD
    have h0 := hD.1
    have h1 := hD.2.1
    have h2 := hD.2.2.1
    have h3 := hD.2.2.2.1
    clear hD
    generalize hAA : fillL y _ _ = AA at hK ⊢
    simp only [fillL, Act.put, List.setIfInBounds_toArray, List.set_cons_zero, List.set_cons_succ, List.getD_cons_zero, List.getD_cons_succ, IsP] at hAA
    subst hAA
    simp only [List.getD_cons_zero, List.getD_cons_succ, IsP] at hK
    simp only [h0, h1, h2, h3] at hK ⊢
    clear h0 h1 h2 h3
    refine ite_yes (by rfl) ?_
    go_simp
    exact hK _ _ _ rfl (Grew.refl _) rfl
  refine ⟨?_, ?_⟩
  · refine wordP_read 0 0 (by kernel_rfl) (by kernel_rfl) (by kernel_rfl) ?_
    intro y w2 p hlo hhi hW hD K hK
    clear hD
    generalize hAA : fillL y _ _ = AA at hK ⊢
    simp only [fillL, Act.put, List.setIfInBounds_toArray, List.set_cons_zero, List.set_cons_succ, List.getD_cons_zero, List.getD_cons_succ, IsP] at hAA
    subst hAA
    simp only [List.getD_cons_zero, List.getD_cons_succ, IsP] at hK
    refine ite_yes (by rfl) ?_
    go_simp
    exact hK _ _ _ rfl (Grew.refl _) rfl
  refine ⟨?_, ?_⟩
  · refine wordP_read 0 0 (by kernel_rfl) (by kernel_rfl) (by kernel_rfl) ?_
    intro y w2 p hlo hhi hW hD K hK
    obtain rfl : p = 0 := by omega
    have d31 := Env.cell hW HM3.out 1 _ rfl
    simp only [depsP, List.getD_cons_zero, List.getD_cons_succ, IsP] at hD
    have h5 := hD.1
    clear hD
    generalize hAA : fillL y _ _ = AA at hK ⊢
    simp only [fillL, Act.put, List.setIfInBounds_toArray, List.set_cons_zero, List.set_cons_succ, List.getD_cons_zero, List.getD_cons_succ, IsP] at hAA
    subst hAA
    simp only [List.getD_cons_zero, List.getD_cons_succ, IsP] at hK
    simp only [h5] at hK ⊢
    clear h5
    refine ite_yes (by rfl) ?_
    go_simp
    exact hK _ _ _ rfl (Grew.refl _) rfl
  refine ⟨?_, ?_⟩
  · refine wordP_write 0 rfl ?_
    intro y w2 hW hD K hK
    simp only [depsP, List.getD_cons_zero, List.getD_cons_succ, IsP] at hD
    have h0 := hD.1
    have h1 := hD.2.1
    have h2 := hD.2.2.1
    have h3 := hD.2.2.2.1
    have h4 := hD.2.2.2.2.1
    have h5 := hD.2.2.2.2.2.1
    have h6 := hD.2.2.2.2.2.2.1
    clear hD
    generalize hAA : fillL y _ _ = AA at hK ⊢
    simp only [fillL, Act.put, List.setIfInBounds_toArray, List.set_cons_zero, List.set_cons_succ, List.getD_cons_zero, List.getD_cons_succ, IsP] at hAA
    subst hAA
    simp only [List.getD_cons_zero, List.getD_cons_succ, IsP] at hK
    simp only [h0, h1, h2, h3, h4, h5, h6] at hK ⊢
    clear h0 h1 h2 h3 h4 h5 h6
    refine ite_yes (by rfl) ?_
    go_simp
    refine (Env.call hW fun κ1 hb hz => hb.buf_calls (alignS_le hb.ok.len) (fun o ho _ => align_any x.s wd ho (Nat.zero_le _) hb.ok.len hb.ok.m1)).mono ?_
    rintro r w3 ⟨rfl, he⟩
    exact hK _ _ _ rfl trivial he rfl
  trivial
theorem apart_any {B : Nat} {q : Ptrs} {most flags : Int} {κ : Nat → Nat} {x : BS} {w : World} (t : Int) (v : V3) (hw : isW v.2.1 = true) (hv : okV v) (ht0 : -9223372036854775808 ≤ t) (ht1 : t ≤ 9223372036854775807) (h : Bd B q most flags κ x w) : Calls Tryz.prog 93 #[bptr q.p, .int .i64 t, vV v] w fun r w' => r = .returned (.tuple #[]) ∧ TurnX B q most flags κ (x.apart most t v) w w' := by
  obtain ⟨ty, wd, u⟩ := v
  have HV := Lib.hid hv
  have HIW : Hid (isW wd = true) := hw
  have HT0 := Lib.hid (And.intro ht0 ht1)
  have HE : Hid (Env B q most flags w κ [(w.heap.size + 2, Obj.cells #[.int .i64 ty, .int .i64 wd, .int .u64 u] 92 (0, 0)), (w.heap.size + 1, Obj.cells #[.int .i64 t] 3 (0, 0)), (w.heap.size, Obj.cells #[bptr q.p] 23 (0, 0))] x (((w.alloc (.cells #[bptr q.p] 23)).alloc (.cells #[.int .i64 t] 3)).alloc (.cells #[.int .i64 ty, .int .i64 wd, .int .u64 u] 92))) := by
    have hh := (((Env.start h).add (.cells #[bptr q.p] 23)).add (.cells #[.int .i64 t] 3)).add (.cells #[.int .i64 ty, .int .i64 wd, .int .u64 u] 92)
    simp only [World.size_alloc, Nat.add_assoc, Nat.reduceAdd] at hh
    exact hh
  clear h hv hw
  show Calls Tryz.prog 93 #[bptr q.p, .int .i64 t, .agg #[.int .i64 ty, .int .i64 wd, .int .u64 u]] w _
  go_enter Tryz.func93, Tryz.ntmps93
  go_wp2_with fail
  refine (HE.out.call' fun κ1 hb he => unless_any hb _ _ (x.apart most t (ty, wd, u)) (fun hx => by unfold BS.apart; rw [if_neg hx]) (fun _ => enters_of Tryz.func160 (by kernel_rfl) rfl _ _) (fun hx => apart1_any _ _ _ t ty wd u HIW.out HV.out HT0.out.1 HT0.out.2 hx he)).mono ?_
  rintro r w5 ⟨rfl, he⟩
  have HT := Lib.hid he
  clear he
  go_wp2
  go_end0
  exact ⟨rfl, HT.out.turn⟩
theorem widthI_isW (n : Int) : isW (widthI n) = true := by
  unfold widthI
  repeat' split
  all_goals rfl
theorem widthOf_isW (n : Nat) : isW (Ft.widthOf n) = true := by
  unfold Ft.widthOf
  repeat' split
  all_goals rfl
theorem bindint_any {B : Nat} {q : Ptrs} {most flags : Int} {κ : Nat → Nat} {x : BS} {w : World} (n : Int) (h0 : -9223372036854775808 ≤ n) (h1 : n ≤ 9223372036854775807) (h : Bd B q most flags κ x w) : Calls Tryz.prog 37 #[bptr q.p, .int .i64 n] w fun r w' => r = .returned (.tuple #[]) ∧ TurnX B q most flags κ (x.apart most 6 (numV n)) w w' := by
  have HE := Lib.hid h
  clear h
  go_enter Tryz.func37, Tryz.ntmps37
  go_wp2_with fail
  refine (bnum_any n _ h0 h1).mono ?_
  rintro r w1 ⟨rfl, hg⟩
  have HG := Lib.hid hg
  clear hg
  go_wp2_with fail
  refine (apart_any 6 (numV n) (widthI_isW n) (numV_ok n h0 h1) (by decide) (by decide) (HE.out.grew HG.out)).mono ?_
  rintro r w2 ⟨rfl, ht⟩
  have HT := Lib.hid ht
  clear ht
  go_wp2
  go_end0
  exact ⟨rfl, HT.out.after HG.out⟩
theorem binduint_any {B : Nat} {q : Ptrs} {most flags : Int} {κ : Nat → Nat} {x : BS} {w : World} (u : Int) (h0 : 0 ≤ u) (h1 : u ≤ 18446744073709551615) (h : Bd B q most flags κ x w) : Calls Tryz.prog 38 #[bptr q.p, .int .u64 u] w fun r w' => r = .returned (.tuple #[]) ∧ TurnX B q most flags κ (x.apart most 7 (unsV u)) w w' := by
  have HE := Lib.hid h
  clear h
  go_enter Tryz.func38, Tryz.ntmps38
  go_wp2_with fail
  refine (buns_any u _ h0 h1).mono ?_
  rintro r w1 ⟨rfl, hg⟩
  have HG := Lib.hid hg
  clear hg
  go_wp2_with fail
  refine (apart_any 7 (unsV u) (widthOf_isW _) (unsV_ok u h0 h1) (by decide) (by decide) (HE.out.grew HG.out)).mono ?_
  rintro r w2 ⟨rfl, ht⟩
  have HT := Lib.hid ht
  clear ht
  go_wp2
  go_end0
  exact ⟨rfl, HT.out.after HG.out⟩
end Go.Proofs.YtjnpcddbgfmpcaaGreat

/-
  The builder, plain: strings and vectors when nothing fails; a shared string adds an element and a tag alone.
-/
namespace Go.Proofs.YtjnpcddbgfmpcaaGreat
open Go Go.ChangeShapes Go.WideShapes Go.ChangeAt Go.RowKit Go.Joins Go.Deep
open Go.Proofs.YtjnpcddbgfmpcaaGreat.Ft (V3 vV okV ValsAt inlineB legalB packF codeF typedF allF oneF fitsF belowW allAt headF fitsL fitsV)
set_option linter.unusedVariables false
set_option linter.unusedSimpArgs false
theorem width_pow (n : Nat) (h : n < 2 ^ 64) : (n : Int) < 2 ^ (8 * (Ft.widthOf n).toNat) := by
  unfold Ft.widthOf
  repeat' split
  · show (n : Int) < 2 ^ 8; omega
  · show (n : Int) < 2 ^ 16; omega
  · show (n : Int) < 2 ^ 32; omega
  · show (n : Int) < 2 ^ 64; omega
theorem bytesS_length2 (k z : ByteArray) : (bytesS [k, z]).length = k.size + z.size := by
  have h : (bytesS [k, z]).length = k.data.size + z.data.size := by simp [bytesS]
  exact h
def textD (b : List UInt8) (k z : ByteArray) : List UInt8 := zeros (padN b (Ft.widthOf k.size)) ++ digB (Ft.widthOf k.size).toNat k.size ++ bytesS [k, z]
def textP (b : List UInt8) (k : ByteArray) : Int := (b.length : Int) + padN b (Ft.widthOf k.size) + Ft.widthOf k.size
theorem length_textD (b : List UInt8) (k z : ByteArray) : ((textD b k z).length : Int) = padN b (Ft.widthOf k.size) + Ft.widthOf k.size + k.size + z.size := by
  have hp := isW_pos (widthOf_isW k.size)
  unfold textD
  rw [List.length_append, List.length_append, length_zeros, length_digB, bytesS_length2]
  omega
theorem text_ok {most t : Int} {x : BS} {b : List UInt8} {k z : ByteArray} (he : x.e = 0) (hs : x.s = (b, 0)) (hl : x.stk.length + 1 ≤ 65536) (hk : k.size < 2 ^ 64) (hm : ((b ++ textD b k z).length : Int) ≤ most) :
    x.text most t k z = { x with s := (b ++ textD b k z, 0), texts := if t = 5 then putP k (textP b k) x.texts else x.texts, stk := x.stk ++ [(t, Ft.widthOf k.size, textP b k)] } := by
  have hw := widthOf_isW k.size
  have hp := isW_pos hw
  have hlt := length_textD b k z
  rw [List.length_append] at hm
  have e1 : alignS most (Ft.widthOf k.size) (b, 0) = (b ++ zeros (padN b (Ft.widthOf k.size)), 0) := alignS_fit hw (by omega)
  have e2 : numS most (Ft.widthOf k.size) k.size (alignS most (Ft.widthOf k.size) x.s) = (b ++ zeros (padN b (Ft.widthOf k.size)) ++ digB (Ft.widthOf k.size).toNat k.size, 0) := by
    rw [hs, e1, numS_put hw (width_pow k.size hk)]
    exact put_fit _ _ _ (by rw [List.length_append, length_zeros, length_digB]; omega)
  have e3 : putS most (bytesS [k, z]) (b ++ zeros (padN b (Ft.widthOf k.size)) ++ digB (Ft.widthOf k.size).toNat k.size, 0) = (b ++ textD b k z, 0) := by
    rw [put_fit _ _ _ (by rw [List.length_append, List.length_append, length_zeros, length_digB, bytesS_length2]; omega)]
    simp only [textD, List.append_assoc]
  have e4 : ((b ++ zeros (padN b (Ft.widthOf k.size)) ++ digB (Ft.widthOf k.size).toNat k.size).length : Int) = textP b k := by
    unfold textP
    rw [List.length_append, List.length_append, length_zeros, length_digB]
    omega
  unfold BS.text
  simp only [e2, e3, e4]
  exact push_ok he rfl hl
theorem endVec_ok {most start : Int} {x : BS} {b : List UInt8} {X : Int} (he : x.e = 0) (hs : x.s = (b, 0)) (hb : b.length ≤ 1048576) (h0 : 0 ≤ start) (h1 : start ≤ x.stk.length) (hl : x.stk.length ≤ 65535) (hn : ∀ v ∈ x.stk.drop start.toNat, Near b.length v)
    (hX : allF (x.stk.drop start.toNat) (0, 0, 0) b.length 1 = X) (hm : lenOf X true true b (x.stk.drop start.toNat) ≤ most) :
    x.endVec most start = { x with s := (b ++ (pieces X true true b (x.stk.drop start.toNat)).flatten, 0), stk := x.stk.take start.toNat ++ [(10, X, (b.length : Int) + padN b X + X)] } := by
  have hL : (x.stk.drop start.toNat).length ≤ 1048576 := by rw [List.length_drop]; omega
  have h := putF_ok (most := most) (T := legalE) (len := true) (tagged := true) (kind := 10) (fun v hv => (hn v hv).1) hb hL hn (by rw [if_pos rfl]; exact hX) hm
  unfold BS.endVec
  rw [if_pos he, if_pos ⟨h0, h1⟩]
  unfold BS.vector
  dsimp only
  rw [if_pos he]
  have e : vputF most (-1) 0 (x.stk.drop start.toNat) x.s = putF most legalE true true 10 0 (x.stk.drop start.toNat) (b, 0) := by rw [hs]; rfl
  rw [e, h]
  simp only [if_true]
  have ef : BS.fail 0 { x with s := (b ++ (pieces X true true b (x.stk.drop start.toNat)).flatten, 0), stk := x.stk.take start.toNat } = { x with s := (b ++ (pieces X true true b (x.stk.drop start.toNat)).flatten, 0), stk := x.stk.take start.toNat } := by
    unfold BS.fail failS
    dsimp only
    rw [if_pos he, ← he]
  show BS.push _ (BS.fail 0 _) = _
  rw [ef]
  exact push_ok he rfl (by dsimp only; rw [List.length_take]; omega)
theorem inl5 : inlineB 5 = false := by decide
theorem inl10 : inlineB 10 = false := by decide
theorem legal5 (w n : Int) (h : isW w = true) : legalE (5, w, n) = 0 := by
  have h1 : legalB 5 = true := by decide
  unfold legalE
  rw [if_pos h1, if_neg (by rw [show ((5 : Int), w, n).1 = 5 from rfl, inl5]; decide)]
  rw [if_pos h]
theorem legal10 (w n : Int) (h : isW w = true) : legalE (10, w, n) = 0 := by
  have h1 : legalB 10 = true := by decide
  unfold legalE
  rw [if_pos h1, if_neg (by rw [show ((10 : Int), w, n).1 = 10 from rfl, inl10]; decide)]
  rw [if_pos h]
theorem near_far {n t w p : Int} (hl : legalE (t, w, p) = 0) (hi : inlineB t = false) (h0 : 0 ≤ p) (h1 : p ≤ n) (hn : n ≤ 18446744073709551615) : Near n (t, w, p) :=
  ⟨hl, ⟨h0, Int.le_trans h1 hn⟩, fun h => absurd h (by rw [show ((t, w, p) : V3).1 = t from rfl, hi]; decide), fun _ => h1⟩
theorem width_short {n : Nat} (h : n ≤ 60) : Ft.widthOf n = 1 := by unfold Ft.widthOf; rw [if_pos (by omega)]
theorem padN_one (b : List UInt8) : padN b 1 = 0 := by unfold padN; omega
theorem getP_put (k : ByteArray) (a : Int) (h0 : 0 ≤ a) (h1 : a ≤ 9007199254740991) : putP k a [] = [(k, a)] ∧ getP [(k, a)] k = (a, true) := by
  have h2 : placeP [] k = 0 := by unfold placeP halves; simp
  have h3 : placeP [(k, a)] k = 0 := by
    unfold placeP keysP
    rw [show ([(k, a)] : PoolL).length = 1 from rfl]
    unfold halves
    rw [if_pos (by decide)]
    have : ltS k k = false := ltS_irrefl k
    simp [this]
    unfold halves
    simp
  constructor
  · unfold putP
    rw [if_neg (by omega)]
    have : hasP [] k = false := by unfold hasP keysP; simp
    rw [this, h2]
    rfl
  · unfold getP
    have : hasP [(k, a)] k = true := by unfold hasP; rw [h3]; simp [keysP]
    rw [this, h3]
    rfl
theorem str_again {most : Int} {x : BS} {k : ByteArray} {a : Int} (he : x.e = 0) (hs : x.s.2 = 0) (hl : x.stk.length + 1 ≤ 65536) (hg : getP x.texts k = (a, true)) : x.str most true k = { x with stk := x.stk ++ [(5, Ft.widthOf k.size, a)] } := by
  unfold BS.str
  dsimp only
  rw [if_pos he, hg]
  simp only [Bool.and_self, if_true]
  exact push_ok he hs hl
theorem str_anew {most : Int} {x : BS} {k : ByteArray} {sh : Bool} (he : x.e = 0) (hg : ((getP x.texts k).2 && sh) = false) : x.str most sh k = x.text most 5 k ⟨#[0]⟩ := by
  unfold BS.str
  dsimp only
  rw [if_pos he, hg]
  simp
theorem wide_one (l : List V3) (n : Int) (h : allAt l (0, 0, 0) n 1 1 = true) (h0 : 0 ≤ n) (h1 : n ≤ 1048576) (hl : l.length ≤ 1048576) : allF l (0, 0, 0) n 1 = 1 := by
  unfold allF
  rw [if_pos ⟨⟨h0, by omega⟩, .inr (.inl rfl), hl⟩]
  unfold Ft.leastOf
  rw [if_pos h]
theorem lenOf_three {X : Int} {b : List UInt8} {l : List V3} (hX : isW X = true) (hl : l.length = 3) : lenOf X true true b l = b.length + padN b X + X + X * 3 + 3 := by
  unfold lenOf
  rw [hl]
  simp
theorem padN_le {X : Int} (b : List UInt8) (hX : isW X = true) : (padN b X : Int) ≤ 7 := by
  unfold padN
  rcases isW_cases hX with rfl | rfl | rfl | rfl <;> omega
theorem three_doc {x : BS} {b : List UInt8} {p1 p2 p3 : Int} (he : x.e = 0) (hs : x.s = (b, 0)) (hb : b.length ≤ 800) (hk : x.stk = [(5, 1, p1), (5, 1, p2), (5, 1, p3)]) (h1 : 0 ≤ p1 ∧ p1 ≤ b.length) (h2 : 0 ≤ p2 ∧ p2 ≤ b.length) (h3 : 0 ≤ p3 ∧ p3 ≤ b.length) :
    ∃ d, ((x.endVec 1000 0).finish 1000).1 = (d, 0) ∧ (b.length : Int) + 10 ≤ d.length ∧ (allAt [(5, 1, p1), (5, 1, p2), (5, 1, p3)] (0, 0, 0) b.length 1 1 = true → (d.length : Int) = b.length + 10) := by
  have hn : ∀ v ∈ [((5 : Int), (1 : Int), p1), (5, 1, p2), (5, 1, p3)], Near b.length v := by
    intro v hv
    simp only [List.mem_cons, List.not_mem_nil, or_false] at hv
    rcases hv with rfl | rfl | rfl
    · exact near_far (legal5 _ _ rfl) inl5 h1.1 h1.2 (by omega)
    · exact near_far (legal5 _ _ rfl) inl5 h2.1 h2.2 (by omega)
    · exact near_far (legal5 _ _ rfl) inl5 h3.1 h3.2 (by omega)
  have hdrop : x.stk.drop (0 : Int).toNat = [(5, 1, p1), (5, 1, p2), (5, 1, p3)] := by rw [hk]; rfl
  obtain ⟨X, hX⟩ : ∃ X, allF [((5 : Int), (1 : Int), p1), (5, 1, p2), (5, 1, p3)] (0, 0, 0) b.length 1 = X := ⟨_, rfl⟩
  have hall := allF_near (n := b.length) (ahead := 1) (.inr rfl) (by omega) (by omega) (show [((5 : Int), (1 : Int), p1), (5, 1, p2), (5, 1, p3)].length ≤ 1048576 by simp) hn
  have hW : isW X = true := by rw [← hX]; exact hall.2.2.1
  have hp := isW_pos hW
  have hpad := padN_le b hW
  have hlen : lenOf X true true b [((5 : Int), (1 : Int), p1), (5, 1, p2), (5, 1, p3)] = b.length + padN b X + X + X * 3 + 3 := lenOf_three hW rfl
  have hv := endVec_ok (most := 1000) (start := 0) (X := X) he hs (by omega) (Int.le_refl _) (by omega) (by rw [hk]; simp) (by rw [hdrop]; exact hn) (by rw [hdrop]; exact hX) (by rw [hdrop, hlen]; omega)
  rw [hdrop] at hv
  have htake : x.stk.take (0 : Int).toNat = [] := by rw [hk]; rfl
  rw [htake, List.nil_append] at hv
  rw [hv]
  have hpl := length_pieces hW true true b [((5 : Int), (1 : Int), p1), (5, 1, p2), (5, 1, p3)]
  have hbl : ((b ++ (pieces X true true b [((5 : Int), (1 : Int), p1), (5, 1, p2), (5, 1, p3)]).flatten).length : Int) = b.length + padN b X + X + X * 3 + 3 := by rw [List.length_append, ← hlen, ← hpl]; omega
  generalize b ++ (pieces X true true b [((5 : Int), (1 : Int), p1), (5, 1, p2), (5, 1, p3)]).flatten = b2 at hbl ⊢
  have hnv : Near b2.length (10, X, (b.length : Int) + padN b X + X) := near_far (legal10 _ _ hW) inl10 (by omega) (by omega) (by omega)
  have hw := (one_near (by omega) hnv).1
  have hwp := isW_pos hw
  have hpad2 := padN_le b2 hw
  have hdl := length_doc hw
  have hfin := finish_ok (most := 1000) (x := { x with s := (b2, 0), stk := [(10, X, (b.length : Int) + padN b X + X)] }) he rfl rfl (by omega) hnv (by rw [hdl]; omega)
  refine ⟨_, hfin, by rw [hdl]; omega, fun ha => ?_⟩
  have hX1 : X = 1 := by rw [← hX]; exact wide_one _ _ ha (by omega) (by omega) (by simp)
  subst hX1
  have hone : oneF 10 1 ((b.length : Int) + padN b 1 + 1) b2.length 0 = 1 := by
    unfold oneF
    rw [if_pos ⟨⟨by omega, by omega⟩, by omega, by omega⟩]
    unfold Ft.leastOf
    rw [if_pos]
    unfold fitsF
    rw [inl10]
    have e8 : (2 : Int) ^ (8 * (1 : Int).toNat) = 256 := by decide
    simp only [Bool.false_eq_true, if_false, Bool.and_eq_true, decide_eq_true_eq, belowW, e8, padN_one] at *
    omega
  have hdl2 : ((docF b2 (10, 1, (b.length : Int) + padN b 1 + 1)).length : Int) = b2.length + padN b2 1 + 1 + 2 := by
    have := hdl
    dsimp only at this
    rw [hone] at this
    exact this
  rw [hdl2]
  simp only [padN_one] at *
  omega
theorem again_docs (k : ByteArray) (hk : k.size ≤ 60) : ∃ d d', ((((((BS.new.str 1000 true k).str 1000 true k).str 1000 true k)).endVec 1000 0).finish 1000).1 = (d, 0) ∧ ((((((BS.new.str 1000 false k).str 1000 false k).str 1000 false k)).endVec 1000 0).finish 1000).1 = (d', 0) ∧ (d.length : Int) = k.size + 12 ∧ (d.length : Int) + 2 * (k.size + 2) ≤ d'.length := by
  have hw := width_short hk
  have hkz : (⟨#[0]⟩ : ByteArray).size = 1 := rfl
  have hD : ∀ b : List UInt8, ((b ++ textD b k ⟨#[0]⟩).length : Int) = b.length + k.size + 2 := fun b => by
    have := length_textD b k ⟨#[0]⟩
    rw [List.length_append]
    rw [hw, padN_one, hkz] at this
    omega
  have hP : ∀ b : List UInt8, textP b k = b.length + 1 := fun b => by unfold textP; rw [hw, padN_one]; omega
  have hD0 := hD []
  have hP0 := hP []
  simp only [List.nil_append, List.length_nil, Int.natCast_zero, Int.zero_add] at hD0 hP0
  have hgp := getP_put k 1 (by decide) (by decide)
  -- shared
  have a1 : BS.new.str 1000 true k = { BS.new with s := (textD [] k ⟨#[0]⟩, 0), texts := [(k, 1)], stk := [(5, 1, 1)] } := by
    have hg : ((getP BS.new.texts k).2 && true) = false := by simp [BS.new, getP, hasP, keysP]
    rw [str_anew rfl hg, text_ok (b := []) rfl rfl (by decide) (by omega) (by rw [List.nil_append]; omega), hP0, hw]
    simp only [if_true, List.nil_append]
    rw [show BS.new.texts = [] from rfl, hgp.1]
    rfl
  have a2 : (BS.new.str 1000 true k).str 1000 true k = { BS.new with s := (textD [] k ⟨#[0]⟩, 0), texts := [(k, 1)], stk := [(5, 1, 1), (5, 1, 1)] } := by
    rw [a1, str_again rfl rfl (by simp) hgp.2, hw]
    rfl
  have a3 : ((BS.new.str 1000 true k).str 1000 true k).str 1000 true k = { BS.new with s := (textD [] k ⟨#[0]⟩, 0), texts := [(k, 1)], stk := [(5, 1, 1), (5, 1, 1), (5, 1, 1)] } := by
    rw [a2, str_again rfl rfl (by simp) hgp.2, hw]
    rfl
  obtain ⟨d, hd1, hd2, hd3⟩ := three_doc (x := { BS.new with s := (textD [] k ⟨#[0]⟩, 0), texts := [(k, 1)], stk := [(5, 1, 1), (5, 1, 1), (5, 1, 1)] }) (b := textD [] k ⟨#[0]⟩) rfl rfl (by omega) rfl ⟨by decide, by omega⟩ ⟨by decide, by omega⟩ ⟨by decide, by omega⟩
  have hd3' := hd3 (by
    have e8 : (2 : Int) ^ (8 * (1 : Int).toNat) = 256 := by decide
    have e8' : (2 : Int) ^ 8 = 256 := by decide
    simp only [allAt, headF, fitsL, fitsV, fitsF, inl5, belowW, e8, Bool.false_eq_true, if_false, Bool.and_eq_true, Bool.or_eq_true, decide_eq_true_eq]
    refine ⟨⟨.inr (by decide), .inl (by decide)⟩, ⟨by omega, by omega⟩, ⟨by omega, by omega⟩, ⟨by omega, by omega⟩, trivial⟩)
  -- each laid down again
  have b1 : BS.new.str 1000 false k = { BS.new with s := (textD [] k ⟨#[0]⟩, 0), texts := [(k, 1)], stk := [(5, 1, 1)] } := by
    have hg : ((getP BS.new.texts k).2 && false) = false := by simp
    rw [str_anew rfl hg, text_ok (b := []) rfl rfl (by decide) (by omega) (by rw [List.nil_append]; omega), hP0, hw]
    simp only [if_true, List.nil_append]
    rw [show BS.new.texts = [] from rfl, hgp.1]
    rfl
  have hD1 := hD (textD [] k ⟨#[0]⟩)
  have hP1 := hP (textD [] k ⟨#[0]⟩)
  obtain ⟨B1, hB1⟩ : ∃ B1, textD [] k ⟨#[0]⟩ = B1 := ⟨_, rfl⟩
  rw [hB1] at hD1 hP1 hD0
  obtain ⟨T2, hT2⟩ : ∃ T2, putP k (textP B1 k) [(k, 1)] = T2 := ⟨_, rfl⟩
  have b2 : (BS.new.str 1000 false k).str 1000 false k = { BS.new with s := (B1 ++ textD B1 k ⟨#[0]⟩, 0), texts := T2, stk := [(5, 1, 1), (5, 1, B1.length + 1)] } := by
    rw [b1, hB1, str_anew rfl (by simp), text_ok (b := B1) rfl rfl (by simp) (by omega) (by omega)]
    simp only [if_true]
    rw [hT2, hP1, hw]
    rfl
  have hD2 := hD (B1 ++ textD B1 k ⟨#[0]⟩)
  have hP2 := hP (B1 ++ textD B1 k ⟨#[0]⟩)
  obtain ⟨B2, hB2⟩ : ∃ B2, B1 ++ textD B1 k ⟨#[0]⟩ = B2 := ⟨_, rfl⟩
  rw [hB2] at hD1 hD2 hP2 b2
  have b3 : ((BS.new.str 1000 false k).str 1000 false k).str 1000 false k = { BS.new with s := (B2 ++ textD B2 k ⟨#[0]⟩, 0), texts := putP k (textP B2 k) T2, stk := [(5, 1, 1), (5, 1, B1.length + 1), (5, 1, B2.length + 1)] } := by
    rw [b2, str_anew rfl (by simp), text_ok (b := B2) rfl rfl (by simp) (by omega) (by omega)]
    simp only [if_true]
    rw [hP2, hw]
    rfl
  obtain ⟨d', hd1', hd2', _⟩ := three_doc (x := { BS.new with s := (B2 ++ textD B2 k ⟨#[0]⟩, 0), texts := putP k (textP B2 k) T2, stk := [(5, 1, 1), (5, 1, B1.length + 1), (5, 1, B2.length + 1)] }) (b := B2 ++ textD B2 k ⟨#[0]⟩) rfl rfl (by omega) rfl ⟨by decide, by omega⟩ ⟨by omega, by omega⟩ ⟨by omega, by omega⟩
  refine ⟨d, d', by rw [a3]; exact hd1, by rw [b3]; exact hd1', ?_, ?_⟩
  · rw [hB1] at hd3'; omega
  · rw [hB1] at hd3'; omega
end Go.Proofs.YtjnpcddbgfmpcaaGreat

/-
  The builder in memory: writing a key (put), Key. Conditions: the builder lies in memory.
-/
namespace Go.Proofs.YtjnpcddbgfmpcaaGreat
open Go Go.ChangeShapes Go.WideShapes Go.ChangeAt Go.RowKit Go.Joins Go.Deep
open Go.Proofs.YtjnpcddbgfmpcaaGreat.Ft (V3 vV okV ValsAt inlineB legalB packF codeF typedF allF)
set_option linter.unusedVariables false
set_option linter.unusedSimpArgs false
section
variable {B : Nat} {q : Ptrs} {most flags : Int} {κ0 : Nat → Nat} {x : BS} {w w0 : World} {Kp : List (Nat × Obj)}
theorem Env.keysGet (k : ByteArray) (h : Env B q most flags w0 κ0 Kp x w) : Calls Tryz.prog 55 #[bptr q.k, .string k] w fun r w' => r = .returned (.tuple #[.int .i64 (getP x.keys k).1, .bool (getP x.keys k).2]) ∧ Grew w w' := by
  obtain ⟨κ, hb, _⟩ := h
  exact get_any k hb.keys
theorem Env.textsGet (k : ByteArray) (h : Env B q most flags w0 κ0 Kp x w) : Calls Tryz.prog 55 #[bptr q.t, .string k] w fun r w' => r = .returned (.tuple #[.int .i64 (getP x.texts k).1, .bool (getP x.texts k).2]) ∧ Grew w w' := by
  obtain ⟨κ, hb, _⟩ := h
  exact get_any k hb.texts
theorem Env.listsGet (k : ByteArray) (h : Env B q most flags w0 κ0 Kp x w) : Calls Tryz.prog 55 #[bptr q.l, .string k] w fun r w' => r = .returned (.tuple #[.int .i64 (getP x.lists k).1, .bool (getP x.lists k).2]) ∧ Grew w w' := by
  obtain ⟨κ, hb, _⟩ := h
  exact get_any k hb.lists
theorem Env.onE (flag : Int) (h : Env B q most flags w0 κ0 Kp x w) : Calls Tryz.prog 56 #[.pointer (some ⟨q.p, 3, none⟩), .int .i64 flag] w fun r w' => r = .returned (.bool (onF flags flag)) ∧ w' = w := by
  obtain ⟨κ, hb, _⟩ := h
  exact on_any flag hb
theorem Env.keysPut (k : ByteArray) (a : Int) (hl : x.keys.length ≤ 1048576) (h : Env B q most flags w0 κ0 Kp x w) : Calls Tryz.prog 113 #[bptr q.k, .string k, .int .i64 a] w fun r w' => r = .returned (.int .i64 (putE15 k a x.keys)) ∧ Env B q most flags w0 κ0 Kp { x with keys := putP k a x.keys } w' :=
  h.call fun κ hb hz => (pput_any k a hb.keys hb.ok.keys).mono fun r w' hr => ⟨hr.1, hb.keys_step (Nat.le_trans (putP_length k a x.keys) (by omega)) (putP_ok hb.ok.okK) hr.2⟩
theorem Env.textsPut (k : ByteArray) (a : Int) (hl : x.texts.length ≤ 1048576) (h : Env B q most flags w0 κ0 Kp x w) : Calls Tryz.prog 113 #[bptr q.t, .string k, .int .i64 a] w fun r w' => r = .returned (.int .i64 (putE15 k a x.texts)) ∧ Env B q most flags w0 κ0 Kp { x with texts := putP k a x.texts } w' :=
  h.call fun κ hb hz => (pput_any k a hb.texts hb.ok.texts).mono fun r w' hr => ⟨hr.1, hb.texts_step (Nat.le_trans (putP_length k a x.texts) (by omega)) (putP_ok hb.ok.okT) hr.2⟩
theorem Env.listsPut (k : ByteArray) (a : Int) (hl : x.lists.length ≤ 1048576) (h : Env B q most flags w0 κ0 Kp x w) : Calls Tryz.prog 113 #[bptr q.l, .string k, .int .i64 a] w fun r w' => r = .returned (.int .i64 (putE15 k a x.lists)) ∧ Env B q most flags w0 κ0 Kp { x with lists := putP k a x.lists } w' :=
  h.call fun κ hb hz => (pput_any k a hb.lists hb.ok.lists).mono fun r w' hr => ⟨hr.1, hb.lists_step (Nat.le_trans (putP_length k a x.lists) (by omega)) hr.2⟩
theorem Env.text2 (a b : ByteArray) (hss : sizeS [a, b] ≤ 1073741824) (h : Env B q most flags w0 κ0 Kp x w) : Calls Tryz.prog 72 #[bptr q.b, .slice (some ⟨w.heap.size, 0, none⟩) 2 2] (w.alloc (.cells #[.string a, .string b] 9)) fun r w' => r = .returned (.tuple #[]) ∧ Env B q most flags w0 κ0 Kp { x with s := putS most (bytesS [a, b]) x.s } w' :=
  h.callw fun κ hb hz => by
    obtain ⟨h0, o, h1, h2⟩ := hb.buf
    refine (textNew2 x.s a b _ rfl h1 (Nat.zero_le _) hb.ok.len hb.ok.m1 hss).mono fun r w' hr => ⟨hr.1, ?_⟩
    obtain ⟨S', k1, k2, k3⟩ := BufS.turn (S := fun k => κ k = 2) h0 h1 h2 hr.2
    exact hb.buf_step (putS_le hb.ok.len) k1 k2 k3
theorem Env.name (k : ByteArray) (a : Int) {w' : World} (h : Env B q most flags w0 κ0 Kp x w) (hb' : MapU w' q.m (namesV x.names ++ [(a, .string k)])) (ho : w'.os = w.os) (ht : w'.tape = w.tape) (hp : w'.output = w.output) (hs : w'.heap.size = w.heap.size) (hk : ∀ j, j ≠ q.m → w'.heap[j]? = w.heap[j]?) :
    Env B q most flags w0 κ0 Kp { x with names := x.names ++ [(a, k)] } w' :=
  h.after fun κ hb hz => hb.names_step (by simpa [namesV] using hb') ⟨ho, ht, hp, Nat.le_of_eq hs.symm, fun j _ hne => hk j hne⟩
theorem Env.namesAt (h : Env B q most flags w0 κ0 Kp x w) : MapU w q.m (namesV x.names) := by
  obtain ⟨κ, hb, _⟩ := h
  exact hb.names.2
end
theorem findU_none {n : Int} : ∀ {l : List (Int × ByteArray)} (i : Nat), (∀ z ∈ l, z.1 < n) → findU n (namesV l) i = none
  | [], _, _ => rfl
  | z :: r, i, h => by
    have h1 := h z List.mem_cons_self
    show (if n = z.1 then _ else findU n (namesV r) (i + 1)) = none
    rw [if_neg (by omega)]
    exact findU_none (i + 1) fun z hz => h z (List.mem_cons_of_mem _ hz)
set_option maxRecDepth 100000 in
set_option maxHeartbeats 8000000 in
theorem bput_any {B : Nat} {q : Ptrs} {most flags : Int} {κ : Nat → Nat} {x : BS} {w : World} (k : ByteArray) (hk : k.size ≤ 1048576) (hg : x.Good) (h : Bd B q most flags κ x w) : Calls Tryz.prog 95 #[bptr q.p, .string k] w fun r w' => r = .returned (vV (x.put most (onF flags 1) k).1) ∧ TurnX B q most flags κ (x.put most (onF flags 1) k).2 w w' := by
  have HG := Lib.hid hg
  have HE : Hid (Env B q most flags w κ [(w.heap.size, Obj.cells #[.int .i64 0, .int .i64 0, .int .u64 0] 92 (0, 0))] x (w.alloc (.cells #[.int .i64 0, .int .i64 0, .int .u64 0] 92))) := (Env.start h).add _
  have HSS : Hid (sizeS [k, ⟨#[0]⟩] ≤ 1073741824) := by have e : (⟨#[0]⟩ : ByteArray).size = 1 := rfl; show _ ≤ _; simp [sizeS, e]; omega
  have HM : Hid ((w.heap.size, Obj.cells #[.int .i64 0, .int .i64 0, .int .u64 0] 92 (0, 0)) ∈ ([(w.heap.size, Obj.cells #[.int .i64 0, .int .i64 0, .int .u64 0] 92 (0, 0))] : List (Nat × Obj))) := List.mem_cons_self
  clear h hg hk
  go_enter Tryz.func95, Tryz.ntmps95
  go_wp2_with fail
  generalize (w.alloc (.cells #[.int .i64 0, .int .i64 0, .int .u64 0] 92)) = w1 at *
  refine wp_region_phases [5] (EnvW B q most flags w κ [(w.heap.size, Obj.cells #[.int .i64 0, .int .i64 0, .int .u64 0] 92 (0, 0))] [x] (x.fail (keyE k))) (fun _ w w' => Grew w w') ((fun p (_ : Nat → Value) => (fun _ _ _ => True) p)) [[], [0], [0, 1], [], [3], [0, 1, 2, 3, 4]] [[(10, 3), (11, 4)], [(7, 0), (10, 3), (11, 4)], [(7, 0), (8, 1), (10, 3), (11, 4)], [(7, 0), (8, 1), (9, 2)], [(7, 0), (8, 1), (9, 2), (10, 3)], [(7, 0), (8, 1), (9, 2), (10, 3), (11, 4)]] [(7, 0), (8, 1), (9, 2), (10, 3), (11, 4), (12, 5)]
    [IsP (bptr q.p), IsP (bptr q.p), IsP (bptr q.p), IsP (.string k), IsP (.int .i64 (keyE k)), IsP (.tuple #[])]
    (by kernel_rfl) (EnvW.grew) (HE.out.grew (Grew.refl _).drew) (by kernel_rfl) (by kernel_rfl) ⟨isP_st, isP_st, isP_st, isP_st, isP_st, isP_st, trivial⟩ rfl ?_ ?_
  · intro y w2 hW hF
    simp only [factsP, IsP, Nat.reduceAdd, List.length_cons, List.length_nil] at hF hW
    have h0 := hF.1
    have h1 := hF.2.1
    have h2 := hF.2.2.1
    have h3 := hF.2.2.2.1
    have h4 := hF.2.2.2.2.1
    have h5 := hF.2.2.2.2.2.1
    clear hF
    simp only [fillL, Act.put, List.setIfInBounds_toArray, List.set_cons_zero, List.set_cons_succ, List.getD_cons_zero, List.getD_cons_succ]
    simp only [h0, h1, h2, h3, h4, h5]
    clear h0 h1 h2 h3 h4 h5
    have HE1 : Hid (Env B q most flags w κ [(w.heap.size, Obj.cells #[.int .i64 0, .int .i64 0, .int .u64 0] 92 (0, 0))] (x.fail (keyE k)) w2) := hW
    have c2 := HE1.out.at2
    by_cases hf : (x.fail (keyE k)).e = 0
    · have hx0 : x.e = 0 ∧ keyE k = 0 := by
        have hh : failS x.e (keyE k) = 0 := hf
        unfold failS at hh
        split at hh
        · exact ⟨by assumption, hh⟩
        · exact absurd hh (by assumption)
      have hxx : x.fail (keyE k) = x := by unfold BS.fail failS; rw [if_pos hx0.1, hx0.2, ← hx0.1]
      have HE2 : Hid (Env B q most flags w κ [(w.heap.size, Obj.cells #[.int .i64 0, .int .i64 0, .int .u64 0] 92 (0, 0))] x w2) := by have h := HE1.out; rw [hxx] at h; exact h
      have HX0 := Lib.hid hx0
      rw [hf] at c2
      have HXX := Lib.hid hxx
      have HKL : Hid (x.keys.length ≤ 1048576) := Nat.le_trans (HG.out.ks hx0.1) HE2.out.len
      have HLN : Hid (x.s.1.length ≤ 1048576) := HE2.out.len
      have HNEW : Hid (findU (x.s.1.length : Int) (namesV x.names) 0 = none) := findU_none 0 (HG.out.nm hx0.1)
      have HPU : Hid (∀ b, (getP x.keys k).2 = b → x.put most (onF flags 1) k = if b && (onF flags 1) then ((4, 1, (getP x.keys k).1), x) else ((4, 1, (x.s.1.length : Int)), ({ x with s := putS most (bytesS [k, ⟨#[0]⟩]) x.s, keys := putP k (x.s.1.length : Int) x.keys, names := x.names ++ [((x.s.1.length : Int), k)] } : BS).fail (putS most (bytesS [k, ⟨#[0]⟩]) x.s).2)) := by
        show ∀ b, _ → _ = _
        intro b hb
        unfold BS.put
        rw [hxx]
        simp only [hx0.1, ne_eq, not_true_eq_false, if_false, hb]
        split
        · rfl
        · simp only [BS.fail, failS, hx0.1, if_true]
      clear hf hx0 hxx HE1
      have c4 := HE2.out.at4
      go_wp2_with fail
      refine (HE2.out.keysGet k).mono ?_
      rintro r w3 ⟨rfl, hg3⟩
      have HE3 := Lib.hid (HE2.out.grew hg3)
      clear hg3 c4 c2
      have HGO := Lib.hid (getP_ok (k := k) HE3.out.ok.okK)
      have HPB := Lib.hid (HPU.out _ rfl)
      generalize getP x.keys k = g at *
      obtain ⟨ga, gb⟩ := g
      cases gb with
      | false =>
        have HP : Hid (x.put most (onF flags 1) k = ((4, 1, (x.s.1.length : Int)), ({ x with s := putS most (bytesS [k, ⟨#[0]⟩]) x.s, keys := putP k (x.s.1.length : Int) x.keys, names := x.names ++ [((x.s.1.length : Int), k)] } : BS).fail (putS most (bytesS [k, ⟨#[0]⟩]) x.s).2)) := HPB.out
        have c0 := HE3.out.at0
        go_wp2_with fail
        refine HE3.out.buflen.mono ?_
        rintro r w9 ⟨rfl, hw9⟩
        obtain rfl : w3 = w9 := hw9.symm
        go_wp2_with fail
        refine (HE3.out.text2 k ⟨#[0]⟩ HSS.out).mono ?_
        rintro r w4 ⟨rfl, he⟩
        have HE4 := Lib.hid he
        clear he c0
        have c4 := HE4.out.at4
        go_wp2_with fail
        refine (HE4.out.keysPut k (x.s.1.length : Int) (show ({ x with s := putS most (bytesS [k, ⟨#[0]⟩]) x.s } : BS).keys.length ≤ 1048576 from HKL.out)).mono ?_
        rintro r w5 ⟨rfl, he⟩
        have HE5 := Lib.hid he
        clear he c4
        have c7 := HE5.out.at7
        have hwa := u64_len _ HLN.out
        go_wp2_with (refine wpList_uPut _ Tryz.underlying50 Tryz.underlying32 rfl _ _ _ rfl q.m (namesV x.names) rfl HE5.out.namesAt (x.s.1.length : Int) rfl _ rfl HNEW.out ?_; intro w6 hb' ho ht hp hs hk; have HE6 := Lib.hid (HE5.out.name k (x.s.1.length : Int) hb' ho ht hp hs hk); clear hb' ho ht hp hs hk c7)
        refine wp_region_phases [9] (EnvW B q most flags w κ [(w.heap.size, Obj.cells #[.int .i64 0, .int .i64 0, .int .u64 0] 92 (0, 0))] [{ x with s := putS most (bytesS [k, ⟨#[0]⟩]) x.s, keys := putP k (x.s.1.length : Int) x.keys, names := x.names ++ [((x.s.1.length : Int), k)] }] (({ x with s := putS most (bytesS [k, ⟨#[0]⟩]) x.s, keys := putP k (x.s.1.length : Int) x.keys, names := x.names ++ [((x.s.1.length : Int), k)] } : BS).fail (putS most (bytesS [k, ⟨#[0]⟩]) x.s).2)) (fun _ w w' => Grew w w') ((fun p (_ : Nat → Value) => (fun _ _ _ => True) p)) [[], [0], [0, 1], [], [3], [3, 4], [3, 4, 5], [3, 4, 5, 6], [3, 4, 5, 6, 7], [0, 1, 2, 3, 4, 5, 6, 7, 8]] [[(72, 3), (73, 4), (74, 5), (75, 6), (76, 7), (77, 8)], [(69, 0), (72, 3), (73, 4), (74, 5), (75, 6), (76, 7), (77, 8)], [(69, 0), (70, 1), (72, 3), (73, 4), (74, 5), (75, 6), (76, 7), (77, 8)], [(69, 0), (70, 1), (71, 2)], [(69, 0), (70, 1), (71, 2), (72, 3)], [(69, 0), (70, 1), (71, 2), (72, 3), (73, 4)], [(69, 0), (70, 1), (71, 2), (72, 3), (73, 4), (74, 5)], [(69, 0), (70, 1), (71, 2), (72, 3), (73, 4), (74, 5), (75, 6)], [(69, 0), (70, 1), (71, 2), (72, 3), (73, 4), (74, 5), (75, 6), (76, 7)], [(69, 0), (70, 1), (71, 2), (72, 3), (73, 4), (74, 5), (75, 6), (76, 7), (77, 8)]] [(69, 0), (70, 1), (71, 2), (72, 3), (73, 4), (74, 5), (75, 6), (76, 7), (77, 8), (78, 9)]
          [IsP (bptr q.p), IsP (bptr q.p), IsP (bptr q.p), IsP (bptr q.p), IsP (bptr q.p), IsP (bptr q.p), IsP (bptr q.p), IsP (bptr q.b), IsP (.int .i64 (putS most (bytesS [k, ⟨#[0]⟩]) x.s).2), IsP (.tuple #[])]
          (by kernel_rfl) (EnvW.grew) (HE6.out.grew (Grew.refl _).drew) (by kernel_rfl) (by kernel_rfl) ⟨isP_st, isP_st, isP_st, isP_st, isP_st, isP_st, isP_st, isP_st, isP_st, isP_st, trivial⟩ rfl ?_ ?_
        · intro y w2 hW hF
          simp only [factsP, IsP, Nat.reduceAdd, List.length_cons, List.length_nil] at hF hW
          have h0 := hF.1
          have h1 := hF.2.1
          have h2 := hF.2.2.1
          have h3 := hF.2.2.2.1
          have h4 := hF.2.2.2.2.1
          have h5 := hF.2.2.2.2.2.1
          have h6 := hF.2.2.2.2.2.2.1
          have h7 := hF.2.2.2.2.2.2.2.1
          have h8 := hF.2.2.2.2.2.2.2.2.1
          have h9 := hF.2.2.2.2.2.2.2.2.2.1
          clear hF
          simp only [fillL, Act.put, List.setIfInBounds_toArray, List.set_cons_zero, List.set_cons_succ, List.getD_cons_zero, List.getD_cons_succ]
          simp only [h0, h1, h2, h3, h4, h5, h6, h7, h8, h9]
          clear h0 h1 h2 h3 h4 h5 h6 h7 h8 h9
          have HE8 : Hid (Env B q most flags w κ [(w.heap.size, Obj.cells #[.int .i64 0, .int .i64 0, .int .u64 0] 92 (0, 0))] (({ x with s := putS most (bytesS [k, ⟨#[0]⟩]) x.s, keys := putP k (x.s.1.length : Int) x.keys, names := x.names ++ [((x.s.1.length : Int), k)] } : BS).fail (putS most (bytesS [k, ⟨#[0]⟩]) x.s).2) w2) := hW
          have hrow := HE8.out.kp HM.out
          have c0 := row_cellT hrow 0 _ rfl
          have c1 := row_cellT hrow 1 _ rfl
          have c2 := row_cellT hrow 2 _ rfl
          have f0 := row_frozen hrow 0
          have f1 := row_frozen hrow 1
          have f2 := row_frozen hrow 2
          clear hrow
          go_wp2_with fail
          refine bodyPost_ret (v := vV (4, 1, (x.s.1.length : Int))) (by simp [results, Tryz.results95, go_sem, c0, c1, c2, vV]) rfl ?_
          exact ⟨by rw [HP.out], by rw [HP.out]; exact HE8.out.told HM.out (Nat.le_refl _) (Moved.setCell (p := ⟨w.heap.size, 2, none⟩) (Moved.setCell (p := ⟨w.heap.size, 1, none⟩) (Moved.setCell (p := ⟨w.heap.size, 0, none⟩) (Moved.refl (fun k => k = w.heap.size) _) (fun _ => rfl) _) (fun _ => rfl) _) (fun _ => rfl) _)⟩
        refine ⟨?_, ?_⟩
        · refine wordP_read 0 0 (by kernel_rfl) (by kernel_rfl) (by kernel_rfl) ?_
          intro y w2 p hlo hhi hW hD K hK
          clear hD
          generalize hAA : fillL y _ _ = AA at hK ⊢
          simp only [fillL, Act.put, List.setIfInBounds_toArray, List.set_cons_zero, List.set_cons_succ, List.getD_cons_zero, List.getD_cons_succ, IsP] at hAA
          subst hAA
          simp only [List.getD_cons_zero, List.getD_cons_succ, IsP] at hK
          refine ite_yes (by rfl) ?_
          go_simp
          exact hK _ _ _ rfl (Grew.refl _) rfl
        refine ⟨?_, ?_⟩
        · refine wordP_read 0 0 (by kernel_rfl) (by kernel_rfl) (by kernel_rfl) ?_
          intro y w2 p hlo hhi hW hD K hK
          simp only [depsP, List.getD_cons_zero, List.getD_cons_succ, IsP] at hD
          have h0 := hD.1
          clear hD
          generalize hAA : fillL y _ _ = AA at hK ⊢
          simp only [fillL, Act.put, List.setIfInBounds_toArray, List.set_cons_zero, List.set_cons_succ, List.getD_cons_zero, List.getD_cons_succ, IsP] at hAA
          subst hAA
          simp only [List.getD_cons_zero, List.getD_cons_succ, IsP] at hK
          simp only [h0] at hK ⊢
          clear h0
          refine ite_yes (by rfl) ?_
          go_simp
          exact hK _ _ _ rfl (Grew.refl _) rfl
        refine ⟨?_, ?_⟩
        · refine wordP_read 0 0 (by kernel_rfl) (by kernel_rfl) (by kernel_rfl) ?_
          intro y w2 p hlo hhi hW hD K hK
          simp only [depsP, List.getD_cons_zero, List.getD_cons_succ, IsP] at hD
          have h0 := hD.1
          have h1 := hD.2.1
          clear hD
          generalize hAA : fillL y _ _ = AA at hK ⊢
          simp only [fillL, Act.put, List.setIfInBounds_toArray, List.set_cons_zero, List.set_cons_succ, List.getD_cons_zero, List.getD_cons_succ, IsP] at hAA
          subst hAA
          simp only [List.getD_cons_zero, List.getD_cons_succ, IsP] at hK
          simp only [h0, h1] at hK ⊢
          clear h0 h1
          refine ite_yes (by rfl) ?_
          go_simp
          exact hK _ _ _ rfl (Grew.refl _) rfl
        refine ⟨?_, ?_⟩
        · refine wordP_read 0 0 (by kernel_rfl) (by kernel_rfl) (by kernel_rfl) ?_
          intro y w2 p hlo hhi hW hD K hK
          clear hD
          generalize hAA : fillL y _ _ = AA at hK ⊢
          simp only [fillL, Act.put, List.setIfInBounds_toArray, List.set_cons_zero, List.set_cons_succ, List.getD_cons_zero, List.getD_cons_succ, IsP] at hAA
          subst hAA
          simp only [List.getD_cons_zero, List.getD_cons_succ, IsP] at hK
          refine ite_yes (by rfl) ?_
          go_simp
          exact hK _ _ _ rfl (Grew.refl _) rfl
        refine ⟨?_, ?_⟩
        · refine wordP_read 0 0 (by kernel_rfl) (by kernel_rfl) (by kernel_rfl) ?_
          intro y w2 p hlo hhi hW hD K hK
          simp only [depsP, List.getD_cons_zero, List.getD_cons_succ, IsP] at hD
          have h3 := hD.1
          clear hD
          generalize hAA : fillL y _ _ = AA at hK ⊢
          simp only [fillL, Act.put, List.setIfInBounds_toArray, List.set_cons_zero, List.set_cons_succ, List.getD_cons_zero, List.getD_cons_succ, IsP] at hAA
          subst hAA
          simp only [List.getD_cons_zero, List.getD_cons_succ, IsP] at hK
          simp only [h3] at hK ⊢
          clear h3
          refine ite_yes (by rfl) ?_
          go_simp
          exact hK _ _ _ rfl (Grew.refl _) rfl
        refine ⟨?_, ?_⟩
        · refine wordP_read 0 0 (by kernel_rfl) (by kernel_rfl) (by kernel_rfl) ?_
          intro y w2 p hlo hhi hW hD K hK
          simp only [depsP, List.getD_cons_zero, List.getD_cons_succ, IsP] at hD
          have h3 := hD.1
          have h4 := hD.2.1
          clear hD
          generalize hAA : fillL y _ _ = AA at hK ⊢
          simp only [fillL, Act.put, List.setIfInBounds_toArray, List.set_cons_zero, List.set_cons_succ, List.getD_cons_zero, List.getD_cons_succ, IsP] at hAA
          subst hAA
          simp only [List.getD_cons_zero, List.getD_cons_succ, IsP] at hK
          simp only [h3, h4] at hK ⊢
          clear h3 h4
          refine ite_yes (by rfl) ?_
          go_simp
          exact hK _ _ _ rfl (Grew.refl _) rfl
        refine ⟨?_, ?_⟩
        · refine wordP_read 0 0 (by kernel_rfl) (by kernel_rfl) (by kernel_rfl) ?_
          intro y w2 p hlo hhi hW hD K hK
          simp only [depsP, List.getD_cons_zero, List.getD_cons_succ, IsP] at hD
          have h3 := hD.1
          have h4 := hD.2.1
          have h5 := hD.2.2.1
          clear hD
          generalize hAA : fillL y _ _ = AA at hK ⊢
          simp only [fillL, Act.put, List.setIfInBounds_toArray, List.set_cons_zero, List.set_cons_succ, List.getD_cons_zero, List.getD_cons_succ, IsP] at hAA
          subst hAA
          simp only [List.getD_cons_zero, List.getD_cons_succ, IsP] at hK
          simp only [h3, h4, h5] at hK ⊢
          clear h3 h4 h5
          refine ite_yes (by rfl) ?_
          go_simp
          exact hK _ _ _ rfl (Grew.refl _) rfl
        refine ⟨?_, ?_⟩
        · refine wordP_read 0 0 (by kernel_rfl) (by kernel_rfl) (by kernel_rfl) ?_
          intro y w2 p hlo hhi hW hD K hK
          obtain rfl : p = 0 := by omega
          have dd := Env.at0 hW
          simp only [depsP, List.getD_cons_zero, List.getD_cons_succ, IsP] at hD
          have h3 := hD.1
          have h4 := hD.2.1
          have h5 := hD.2.2.1
          have h6 := hD.2.2.2.1
          clear hD
          generalize hAA : fillL y _ _ = AA at hK ⊢
          simp only [fillL, Act.put, List.setIfInBounds_toArray, List.set_cons_zero, List.set_cons_succ, List.getD_cons_zero, List.getD_cons_succ, IsP] at hAA
          subst hAA
          simp only [List.getD_cons_zero, List.getD_cons_succ, IsP] at hK
          simp only [h3, h4, h5, h6] at hK ⊢
          clear h3 h4 h5 h6
          refine ite_yes (by rfl) ?_
          go_simp
          exact hK _ _ _ rfl (Grew.refl _) rfl
        refine ⟨?_, ?_⟩
        · refine wordP_read 0 0 (by kernel_rfl) (by kernel_rfl) (by kernel_rfl) ?_
          intro y w2 p hlo hhi hW hD K hK
          simp only [depsP, List.getD_cons_zero, List.getD_cons_succ, IsP] at hD
          have h3 := hD.1
          have h4 := hD.2.1
          have h5 := hD.2.2.1
          have h6 := hD.2.2.2.1
          have h7 := hD.2.2.2.2.1
          clear hD
          generalize hAA : fillL y _ _ = AA at hK ⊢
          simp only [fillL, Act.put, List.setIfInBounds_toArray, List.set_cons_zero, List.set_cons_succ, List.getD_cons_zero, List.getD_cons_succ, IsP] at hAA
          subst hAA
          simp only [List.getD_cons_zero, List.getD_cons_succ, IsP] at hK
          simp only [h3, h4, h5, h6, h7] at hK ⊢
          clear h3 h4 h5 h6 h7
          refine ite_yes (by rfl) ?_
          go_simp
          obtain rfl : p = 0 := by omega
          refine (Env.buferr hW).mono ?_
          rintro r w3 ⟨rfl, hw3⟩
          exact hK _ _ _ rfl (by rw [hw3]; exact Grew.refl _) rfl
        refine ⟨?_, ?_⟩
        · refine wordP_write 0 rfl ?_
          intro y w2 hW hD K hK
          simp only [depsP, List.getD_cons_zero, List.getD_cons_succ, IsP] at hD
          have h0 := hD.1
          have h1 := hD.2.1
          have h2 := hD.2.2.1
          have h3 := hD.2.2.2.1
          have h4 := hD.2.2.2.2.1
          have h5 := hD.2.2.2.2.2.1
          have h6 := hD.2.2.2.2.2.2.1
          have h7 := hD.2.2.2.2.2.2.2.1
          have h8 := hD.2.2.2.2.2.2.2.2.1
          clear hD
          generalize hAA : fillL y _ _ = AA at hK ⊢
          simp only [fillL, Act.put, List.setIfInBounds_toArray, List.set_cons_zero, List.set_cons_succ, List.getD_cons_zero, List.getD_cons_succ, IsP] at hAA
          subst hAA
          simp only [List.getD_cons_zero, List.getD_cons_succ, IsP] at hK
          simp only [h0, h1, h2, h3, h4, h5, h6, h7, h8] at hK ⊢
          clear h0 h1 h2 h3 h4 h5 h6 h7 h8
          refine ite_yes (by rfl) ?_
          go_simp
          refine (Env.call hW fun κ1 hb hz => pfail_any _ hb).mono ?_
          rintro r w3 ⟨rfl, he⟩
          exact hK _ _ _ rfl trivial he rfl
        trivial
      | true =>
        cases ho : onF flags 1 with
        | false =>
          have HP : Hid (x.put most (onF flags 1) k = ((4, 1, (x.s.1.length : Int)), ({ x with s := putS most (bytesS [k, ⟨#[0]⟩]) x.s, keys := putP k (x.s.1.length : Int) x.keys, names := x.names ++ [((x.s.1.length : Int), k)] } : BS).fail (putS most (bytesS [k, ⟨#[0]⟩]) x.s).2)) := by have h := HPB.out; rw [ho] at h; rw [ho]; exact h
          have HO := Lib.hid ho
          clear ho
          go_wp2_with fail
          refine (HE3.out.onE 1).mono ?_
          rw [HO.out]
          rintro r w9 ⟨rfl, hw9⟩
          obtain rfl : w3 = w9 := hw9.symm
          have c0 := HE3.out.at0
          go_wp2_with fail
          refine HE3.out.buflen.mono ?_
          rintro r w9 ⟨rfl, hw9⟩
          obtain rfl : w3 = w9 := hw9.symm
          go_wp2_with fail
          refine (HE3.out.text2 k ⟨#[0]⟩ HSS.out).mono ?_
          rintro r w4 ⟨rfl, he⟩
          have HE4 := Lib.hid he
          clear he c0
          have c4 := HE4.out.at4
          go_wp2_with fail
          refine (HE4.out.keysPut k (x.s.1.length : Int) (show ({ x with s := putS most (bytesS [k, ⟨#[0]⟩]) x.s } : BS).keys.length ≤ 1048576 from HKL.out)).mono ?_
          rintro r w5 ⟨rfl, he⟩
          have HE5 := Lib.hid he
          clear he c4
          have c7 := HE5.out.at7
          have hwa := u64_len _ HLN.out
          go_wp2_with (refine wpList_uPut _ Tryz.underlying50 Tryz.underlying32 rfl _ _ _ rfl q.m (namesV x.names) rfl HE5.out.namesAt (x.s.1.length : Int) rfl _ rfl HNEW.out ?_; intro w6 hb' ho ht hp hs hk; have HE6 := Lib.hid (HE5.out.name k (x.s.1.length : Int) hb' ho ht hp hs hk); clear hb' ho ht hp hs hk c7)
          refine wp_region_phases [9] (EnvW B q most flags w κ [(w.heap.size, Obj.cells #[.int .i64 0, .int .i64 0, .int .u64 0] 92 (0, 0))] [{ x with s := putS most (bytesS [k, ⟨#[0]⟩]) x.s, keys := putP k (x.s.1.length : Int) x.keys, names := x.names ++ [((x.s.1.length : Int), k)] }] (({ x with s := putS most (bytesS [k, ⟨#[0]⟩]) x.s, keys := putP k (x.s.1.length : Int) x.keys, names := x.names ++ [((x.s.1.length : Int), k)] } : BS).fail (putS most (bytesS [k, ⟨#[0]⟩]) x.s).2)) (fun _ w w' => Grew w w') ((fun p (_ : Nat → Value) => (fun _ _ _ => True) p)) [[], [0], [0, 1], [], [3], [3, 4], [3, 4, 5], [3, 4, 5, 6], [3, 4, 5, 6, 7], [0, 1, 2, 3, 4, 5, 6, 7, 8]] [[(72, 3), (73, 4), (74, 5), (75, 6), (76, 7), (77, 8)], [(69, 0), (72, 3), (73, 4), (74, 5), (75, 6), (76, 7), (77, 8)], [(69, 0), (70, 1), (72, 3), (73, 4), (74, 5), (75, 6), (76, 7), (77, 8)], [(69, 0), (70, 1), (71, 2)], [(69, 0), (70, 1), (71, 2), (72, 3)], [(69, 0), (70, 1), (71, 2), (72, 3), (73, 4)], [(69, 0), (70, 1), (71, 2), (72, 3), (73, 4), (74, 5)], [(69, 0), (70, 1), (71, 2), (72, 3), (73, 4), (74, 5), (75, 6)], [(69, 0), (70, 1), (71, 2), (72, 3), (73, 4), (74, 5), (75, 6), (76, 7)], [(69, 0), (70, 1), (71, 2), (72, 3), (73, 4), (74, 5), (75, 6), (76, 7), (77, 8)]] [(69, 0), (70, 1), (71, 2), (72, 3), (73, 4), (74, 5), (75, 6), (76, 7), (77, 8), (78, 9)]
            [IsP (bptr q.p), IsP (bptr q.p), IsP (bptr q.p), IsP (bptr q.p), IsP (bptr q.p), IsP (bptr q.p), IsP (bptr q.p), IsP (bptr q.b), IsP (.int .i64 (putS most (bytesS [k, ⟨#[0]⟩]) x.s).2), IsP (.tuple #[])]
            (by kernel_rfl) (EnvW.grew) (HE6.out.grew (Grew.refl _).drew) (by kernel_rfl) (by kernel_rfl) ⟨isP_st, isP_st, isP_st, isP_st, isP_st, isP_st, isP_st, isP_st, isP_st, isP_st, trivial⟩ rfl ?_ ?_
          · intro y w2 hW hF
            simp only [factsP, IsP, Nat.reduceAdd, List.length_cons, List.length_nil] at hF hW
            have h0 := hF.1
            have h1 := hF.2.1
            have h2 := hF.2.2.1
            have h3 := hF.2.2.2.1
            have h4 := hF.2.2.2.2.1
            have h5 := hF.2.2.2.2.2.1
            have h6 := hF.2.2.2.2.2.2.1
            have h7 := hF.2.2.2.2.2.2.2.1
            have h8 := hF.2.2.2.2.2.2.2.2.1
            have h9 := hF.2.2.2.2.2.2.2.2.2.1
            clear hF
            simp only [fillL, Act.put, List.setIfInBounds_toArray, List.set_cons_zero, List.set_cons_succ, List.getD_cons_zero, List.getD_cons_succ]
            simp only [h0, h1, h2, h3, h4, h5, h6, h7, h8, h9]
            clear h0 h1 h2 h3 h4 h5 h6 h7 h8 h9
            have HE8 : Hid (Env B q most flags w κ [(w.heap.size, Obj.cells #[.int .i64 0, .int .i64 0, .int .u64 0] 92 (0, 0))] (({ x with s := putS most (bytesS [k, ⟨#[0]⟩]) x.s, keys := putP k (x.s.1.length : Int) x.keys, names := x.names ++ [((x.s.1.length : Int), k)] } : BS).fail (putS most (bytesS [k, ⟨#[0]⟩]) x.s).2) w2) := hW
            have hrow := HE8.out.kp HM.out
            have c0 := row_cellT hrow 0 _ rfl
            have c1 := row_cellT hrow 1 _ rfl
            have c2 := row_cellT hrow 2 _ rfl
            have f0 := row_frozen hrow 0
            have f1 := row_frozen hrow 1
            have f2 := row_frozen hrow 2
            clear hrow
            go_wp2_with fail
            refine bodyPost_ret (v := vV (4, 1, (x.s.1.length : Int))) (by simp [results, Tryz.results95, go_sem, c0, c1, c2, vV]) rfl ?_
            exact ⟨by rw [HP.out], by rw [HP.out]; exact HE8.out.told HM.out (Nat.le_refl _) (Moved.setCell (p := ⟨w.heap.size, 2, none⟩) (Moved.setCell (p := ⟨w.heap.size, 1, none⟩) (Moved.setCell (p := ⟨w.heap.size, 0, none⟩) (Moved.refl (fun k => k = w.heap.size) _) (fun _ => rfl) _) (fun _ => rfl) _) (fun _ => rfl) _)⟩
          refine ⟨?_, ?_⟩
          · refine wordP_read 0 0 (by kernel_rfl) (by kernel_rfl) (by kernel_rfl) ?_
            intro y w2 p hlo hhi hW hD K hK
            clear hD
            generalize hAA : fillL y _ _ = AA at hK ⊢
            simp only [fillL, Act.put, List.setIfInBounds_toArray, List.set_cons_zero, List.set_cons_succ, List.getD_cons_zero, List.getD_cons_succ, IsP] at hAA
            subst hAA
            simp only [List.getD_cons_zero, List.getD_cons_succ, IsP] at hK
            refine ite_yes (by rfl) ?_
            go_simp
            exact hK _ _ _ rfl (Grew.refl _) rfl
          refine ⟨?_, ?_⟩
          · refine wordP_read 0 0 (by kernel_rfl) (by kernel_rfl) (by kernel_rfl) ?_
            intro y w2 p hlo hhi hW hD K hK
            simp only [depsP, List.getD_cons_zero, List.getD_cons_succ, IsP] at hD
            have h0 := hD.1
            clear hD
            generalize hAA : fillL y _ _ = AA at hK ⊢
            simp only [fillL, Act.put, List.setIfInBounds_toArray, List.set_cons_zero, List.set_cons_succ, List.getD_cons_zero, List.getD_cons_succ, IsP] at hAA
            subst hAA
            simp only [List.getD_cons_zero, List.getD_cons_succ, IsP] at hK
            simp only [h0] at hK ⊢
            clear h0
            refine ite_yes (by rfl) ?_
            go_simp
            exact hK _ _ _ rfl (Grew.refl _) rfl
          refine ⟨?_, ?_⟩
          · refine wordP_read 0 0 (by kernel_rfl) (by kernel_rfl) (by kernel_rfl) ?_
            intro y w2 p hlo hhi hW hD K hK
            simp only [depsP, List.getD_cons_zero, List.getD_cons_succ, IsP] at hD
            have h0 := hD.1
            have h1 := hD.2.1
            clear hD
            generalize hAA : fillL y _ _ = AA at hK ⊢
            simp only [fillL, Act.put, List.setIfInBounds_toArray, List.set_cons_zero, List.set_cons_succ, List.getD_cons_zero, List.getD_cons_succ, IsP] at hAA
            subst hAA
            simp only [List.getD_cons_zero, List.getD_cons_succ, IsP] at hK
            simp only [h0, h1] at hK ⊢
            clear h0 h1
            refine ite_yes (by rfl) ?_
            go_simp
            exact hK _ _ _ rfl (Grew.refl _) rfl
          refine ⟨?_, ?_⟩
          · refine wordP_read 0 0 (by kernel_rfl) (by kernel_rfl) (by kernel_rfl) ?_
            intro y w2 p hlo hhi hW hD K hK
            clear hD
            generalize hAA : fillL y _ _ = AA at hK ⊢
            simp only [fillL, Act.put, List.setIfInBounds_toArray, List.set_cons_zero, List.set_cons_succ, List.getD_cons_zero, List.getD_cons_succ, IsP] at hAA
            subst hAA
            simp only [List.getD_cons_zero, List.getD_cons_succ, IsP] at hK
            refine ite_yes (by rfl) ?_
            go_simp
            exact hK _ _ _ rfl (Grew.refl _) rfl
          refine ⟨?_, ?_⟩
          · refine wordP_read 0 0 (by kernel_rfl) (by kernel_rfl) (by kernel_rfl) ?_
            intro y w2 p hlo hhi hW hD K hK
            simp only [depsP, List.getD_cons_zero, List.getD_cons_succ, IsP] at hD
            have h3 := hD.1
            clear hD
            generalize hAA : fillL y _ _ = AA at hK ⊢
            simp only [fillL, Act.put, List.setIfInBounds_toArray, List.set_cons_zero, List.set_cons_succ, List.getD_cons_zero, List.getD_cons_succ, IsP] at hAA
            subst hAA
            simp only [List.getD_cons_zero, List.getD_cons_succ, IsP] at hK
            simp only [h3] at hK ⊢
            clear h3
            refine ite_yes (by rfl) ?_
            go_simp
            exact hK _ _ _ rfl (Grew.refl _) rfl
          refine ⟨?_, ?_⟩
          · refine wordP_read 0 0 (by kernel_rfl) (by kernel_rfl) (by kernel_rfl) ?_
            intro y w2 p hlo hhi hW hD K hK
            simp only [depsP, List.getD_cons_zero, List.getD_cons_succ, IsP] at hD
            have h3 := hD.1
            have h4 := hD.2.1
            clear hD
            generalize hAA : fillL y _ _ = AA at hK ⊢
            simp only [fillL, Act.put, List.setIfInBounds_toArray, List.set_cons_zero, List.set_cons_succ, List.getD_cons_zero, List.getD_cons_succ, IsP] at hAA
            subst hAA
            simp only [List.getD_cons_zero, List.getD_cons_succ, IsP] at hK
            simp only [h3, h4] at hK ⊢
            clear h3 h4
            refine ite_yes (by rfl) ?_
            go_simp
            exact hK _ _ _ rfl (Grew.refl _) rfl
          refine ⟨?_, ?_⟩
          · refine wordP_read 0 0 (by kernel_rfl) (by kernel_rfl) (by kernel_rfl) ?_
            intro y w2 p hlo hhi hW hD K hK
            simp only [depsP, List.getD_cons_zero, List.getD_cons_succ, IsP] at hD
            have h3 := hD.1
            have h4 := hD.2.1
            have h5 := hD.2.2.1
            clear hD
            generalize hAA : fillL y _ _ = AA at hK ⊢
            simp only [fillL, Act.put, List.setIfInBounds_toArray, List.set_cons_zero, List.set_cons_succ, List.getD_cons_zero, List.getD_cons_succ, IsP] at hAA
            subst hAA
            simp only [List.getD_cons_zero, List.getD_cons_succ, IsP] at hK
            simp only [h3, h4, h5] at hK ⊢
            clear h3 h4 h5
            refine ite_yes (by rfl) ?_
            go_simp
            exact hK _ _ _ rfl (Grew.refl _) rfl
          refine ⟨?_, ?_⟩
          · refine wordP_read 0 0 (by kernel_rfl) (by kernel_rfl) (by kernel_rfl) ?_
            intro y w2 p hlo hhi hW hD K hK
            obtain rfl : p = 0 := by omega
            have dd := Env.at0 hW
            simp only [depsP, List.getD_cons_zero, List.getD_cons_succ, IsP] at hD
            have h3 := hD.1
            have h4 := hD.2.1
            have h5 := hD.2.2.1
            have h6 := hD.2.2.2.1
            clear hD
            generalize hAA : fillL y _ _ = AA at hK ⊢
            simp only [fillL, Act.put, List.setIfInBounds_toArray, List.set_cons_zero, List.set_cons_succ, List.getD_cons_zero, List.getD_cons_succ, IsP] at hAA
            subst hAA
            simp only [List.getD_cons_zero, List.getD_cons_succ, IsP] at hK
            simp only [h3, h4, h5, h6] at hK ⊢
            clear h3 h4 h5 h6
            refine ite_yes (by rfl) ?_
            go_simp
            exact hK _ _ _ rfl (Grew.refl _) rfl
          refine ⟨?_, ?_⟩
          · refine wordP_read 0 0 (by kernel_rfl) (by kernel_rfl) (by kernel_rfl) ?_
            intro y w2 p hlo hhi hW hD K hK
            simp only [depsP, List.getD_cons_zero, List.getD_cons_succ, IsP] at hD
            have h3 := hD.1
            have h4 := hD.2.1
            have h5 := hD.2.2.1
            have h6 := hD.2.2.2.1
            have h7 := hD.2.2.2.2.1
            clear hD
            generalize hAA : fillL y _ _ = AA at hK ⊢
            simp only [fillL, Act.put, List.setIfInBounds_toArray, List.set_cons_zero, List.set_cons_succ, List.getD_cons_zero, List.getD_cons_succ, IsP] at hAA
            subst hAA
            simp only [List.getD_cons_zero, List.getD_cons_succ, IsP] at hK
            simp only [h3, h4, h5, h6, h7] at hK ⊢
            clear h3 h4 h5 h6 h7
            refine ite_yes (by rfl) ?_
            go_simp
            obtain rfl : p = 0 := by omega
            refine (Env.buferr hW).mono ?_
            rintro r w3 ⟨rfl, hw3⟩
            exact hK _ _ _ rfl (by rw [hw3]; exact Grew.refl _) rfl
          refine ⟨?_, ?_⟩
          · refine wordP_write 0 rfl ?_
            intro y w2 hW hD K hK
            simp only [depsP, List.getD_cons_zero, List.getD_cons_succ, IsP] at hD
            have h0 := hD.1
            have h1 := hD.2.1
            have h2 := hD.2.2.1
            have h3 := hD.2.2.2.1
            have h4 := hD.2.2.2.2.1
            have h5 := hD.2.2.2.2.2.1
            have h6 := hD.2.2.2.2.2.2.1
            have h7 := hD.2.2.2.2.2.2.2.1
            have h8 := hD.2.2.2.2.2.2.2.2.1
            clear hD
            generalize hAA : fillL y _ _ = AA at hK ⊢
            simp only [fillL, Act.put, List.setIfInBounds_toArray, List.set_cons_zero, List.set_cons_succ, List.getD_cons_zero, List.getD_cons_succ, IsP] at hAA
            subst hAA
            simp only [List.getD_cons_zero, List.getD_cons_succ, IsP] at hK
            simp only [h0, h1, h2, h3, h4, h5, h6, h7, h8] at hK ⊢
            clear h0 h1 h2 h3 h4 h5 h6 h7 h8
            refine ite_yes (by rfl) ?_
            go_simp
            refine (Env.call hW fun κ1 hb hz => pfail_any _ hb).mono ?_
            rintro r w3 ⟨rfl, he⟩
            exact hK _ _ _ rfl trivial he rfl
          trivial
        | true =>
          have HP : Hid (x.put most (onF flags 1) k = ((4, 1, ga), x)) := by have h := HPB.out; rw [ho] at h; rw [ho]; exact h
          have HO := Lib.hid ho
          clear ho
          go_wp2_with fail
          refine (HE3.out.onE 1).mono ?_
          rw [HO.out]
          rintro r w9 ⟨rfl, hw9⟩
          obtain rfl : w3 = w9 := hw9.symm
          have HE8 := HE3
          have hwa : IntKind.u64.wrap ga = ga := by have h := HGO.out; simp [IntKind.wrap, IntKind.bits, IntKind.signed]; omega
          have hrow := HE8.out.kp HM.out
          have c0 := row_cellT hrow 0 _ rfl
          have c1 := row_cellT hrow 1 _ rfl
          have c2 := row_cellT hrow 2 _ rfl
          have f0 := row_frozen hrow 0
          have f1 := row_frozen hrow 1
          have f2 := row_frozen hrow 2
          clear hrow
          go_wp2_with fail
          refine bodyPost_ret (v := vV (4, 1, ga)) (by simp [results, Tryz.results95, go_sem, c0, c1, c2, vV]) rfl ?_
          exact ⟨by rw [HP.out], by rw [HP.out]; exact HE8.out.told HM.out (Nat.le_refl _) (Moved.setCell (p := ⟨w.heap.size, 2, none⟩) (Moved.setCell (p := ⟨w.heap.size, 1, none⟩) (Moved.setCell (p := ⟨w.heap.size, 0, none⟩) (Moved.refl (fun k => k = w.heap.size) _) (fun _ => rfl) _) (fun _ => rfl) _) (fun _ => rfl) _)⟩
    · have HP : Hid (x.put most (onF flags 1) k = ((0, 0, 0), x.fail (keyE k))) := by show _ = _; unfold BS.put; simp only [ne_eq, hf, not_false_eq_true, if_true]
      have HE8 := Lib.hid HE1.out
      generalize hex : (x.fail (keyE k)).e = ex at *
      have hne : ¬ ex = 0 := hf
      clear hf hex HE1
      have hrow := HE8.out.kp HM.out
      have c0 := row_cellT hrow 0 _ rfl
      have c1 := row_cellT hrow 1 _ rfl
      have c2 := row_cellT hrow 2 _ rfl
      have f0 := row_frozen hrow 0
      have f1 := row_frozen hrow 1
      have f2 := row_frozen hrow 2
      clear hrow
      go_wp2_with fail
      refine bodyPost_ret (v := vV (0, 0, 0)) (by simp [results, Tryz.results95, go_sem, c0, c1, c2, vV]) rfl ?_
      exact ⟨by rw [HP.out], by rw [HP.out]; exact HE8.out.told HM.out (Nat.le_refl _) (Moved.setCell (p := ⟨w.heap.size, 2, none⟩) (Moved.setCell (p := ⟨w.heap.size, 1, none⟩) (Moved.setCell (p := ⟨w.heap.size, 0, none⟩) (Moved.refl (fun k => k = w.heap.size) _) (fun _ => rfl) _) (fun _ => rfl) _) (fun _ => rfl) _)⟩
  refine ⟨?_, ?_⟩
  · refine wordP_read 0 0 (by kernel_rfl) (by kernel_rfl) (by kernel_rfl) ?_
    intro y w2 p hlo hhi hW hD K hK
    clear hD
    generalize hAA : fillL y _ _ = AA at hK ⊢
    simp only [fillL, Act.put, List.setIfInBounds_toArray, List.set_cons_zero, List.set_cons_succ, List.getD_cons_zero, List.getD_cons_succ, IsP] at hAA
    subst hAA
    simp only [List.getD_cons_zero, List.getD_cons_succ, IsP] at hK
    refine ite_yes (by rfl) ?_
    go_simp
    exact hK _ _ _ rfl (Grew.refl _) rfl
  refine ⟨?_, ?_⟩
  · refine wordP_read 0 0 (by kernel_rfl) (by kernel_rfl) (by kernel_rfl) ?_
    intro y w2 p hlo hhi hW hD K hK
    simp only [depsP, List.getD_cons_zero, List.getD_cons_succ, IsP] at hD
    have h0 := hD.1
    clear hD
    generalize hAA : fillL y _ _ = AA at hK ⊢
    simp only [fillL, Act.put, List.setIfInBounds_toArray, List.set_cons_zero, List.set_cons_succ, List.getD_cons_zero, List.getD_cons_succ, IsP] at hAA
    subst hAA
    simp only [List.getD_cons_zero, List.getD_cons_succ, IsP] at hK
    simp only [h0] at hK ⊢
    clear h0
    refine ite_yes (by rfl) ?_
    go_simp
    exact hK _ _ _ rfl (Grew.refl _) rfl
  refine ⟨?_, ?_⟩
  · refine wordP_read 0 0 (by kernel_rfl) (by kernel_rfl) (by kernel_rfl) ?_
    intro y w2 p hlo hhi hW hD K hK
    simp only [depsP, List.getD_cons_zero, List.getD_cons_succ, IsP] at hD
    have h0 := hD.1
    have h1 := hD.2.1
    clear hD
    generalize hAA : fillL y _ _ = AA at hK ⊢
    simp only [fillL, Act.put, List.setIfInBounds_toArray, List.set_cons_zero, List.set_cons_succ, List.getD_cons_zero, List.getD_cons_succ, IsP] at hAA
    subst hAA
    simp only [List.getD_cons_zero, List.getD_cons_succ, IsP] at hK
    simp only [h0, h1] at hK ⊢
    clear h0 h1
    refine ite_yes (by rfl) ?_
    go_simp
    exact hK _ _ _ rfl (Grew.refl _) rfl
  refine ⟨?_, ?_⟩
  · refine wordP_read 0 0 (by kernel_rfl) (by kernel_rfl) (by kernel_rfl) ?_
    intro y w2 p hlo hhi hW hD K hK
    clear hD
    generalize hAA : fillL y _ _ = AA at hK ⊢
    simp only [fillL, Act.put, List.setIfInBounds_toArray, List.set_cons_zero, List.set_cons_succ, List.getD_cons_zero, List.getD_cons_succ, IsP] at hAA
    subst hAA
    simp only [List.getD_cons_zero, List.getD_cons_succ, IsP] at hK
    refine ite_yes (by rfl) ?_
    go_simp
    exact hK _ _ _ rfl (Grew.refl _) rfl
  refine ⟨?_, ?_⟩
  · refine wordP_read 0 0 (by kernel_rfl) (by kernel_rfl) (by kernel_rfl) ?_
    intro y w2 p hlo hhi hW hD K hK
    simp only [depsP, List.getD_cons_zero, List.getD_cons_succ, IsP] at hD
    have h3 := hD.1
    clear hD
    generalize hAA : fillL y _ _ = AA at hK ⊢
    simp only [fillL, Act.put, List.setIfInBounds_toArray, List.set_cons_zero, List.set_cons_succ, List.getD_cons_zero, List.getD_cons_succ, IsP] at hAA
    subst hAA
    simp only [List.getD_cons_zero, List.getD_cons_succ, IsP] at hK
    simp only [h3] at hK ⊢
    clear h3
    refine ite_yes (by rfl) ?_
    go_simp
    refine (kcheck_any k w2).mono ?_
    rintro r w3 ⟨rfl, hw3⟩
    exact hK _ _ _ rfl (by rw [← hw3]; exact Grew.refl _) rfl
  refine ⟨?_, ?_⟩
  · refine wordP_write 0 rfl ?_
    intro y w2 hW hD K hK
    simp only [depsP, List.getD_cons_zero, List.getD_cons_succ, IsP] at hD
    have h0 := hD.1
    have h1 := hD.2.1
    have h2 := hD.2.2.1
    have h3 := hD.2.2.2.1
    have h4 := hD.2.2.2.2.1
    clear hD
    generalize hAA : fillL y _ _ = AA at hK ⊢
    simp only [fillL, Act.put, List.setIfInBounds_toArray, List.set_cons_zero, List.set_cons_succ, List.getD_cons_zero, List.getD_cons_succ, IsP] at hAA
    subst hAA
    simp only [List.getD_cons_zero, List.getD_cons_succ, IsP] at hK
    simp only [h0, h1, h2, h3, h4] at hK ⊢
    clear h0 h1 h2 h3 h4
    refine ite_yes (by rfl) ?_
    go_simp
    refine (Env.call hW fun κ1 hb hz => pfail_any _ hb).mono ?_
    rintro r w3 ⟨rfl, he⟩
    exact hK _ _ _ rfl trivial he rfl
  trivial
end Go.Proofs.YtjnpcddbgfmpcaaGreat

/-
  The builder in memory: keys, strings and blobs. Conditions: the builder lies in memory.
-/
namespace Go.Proofs.YtjnpcddbgfmpcaaGreat
open Go Go.ChangeShapes Go.WideShapes Go.ChangeAt Go.RowKit Go.Joins Go.Deep
open Go.Proofs.YtjnpcddbgfmpcaaGreat.Ft (V3 vV okV ValsAt inlineB legalB packF codeF typedF allF)
set_option linter.unusedVariables false
set_option linter.unusedSimpArgs false
theorem BS.put_ok {most : Int} {x : BS} {sh : Bool} {k : ByteArray} (h : x.Ok most) : okV (x.put most sh k).1 := by
  have hl := h.len
  have hm := h.m1
  have hk := getP_ok (k := k) h.okK
  unfold BS.put
  dsimp only
  split
  · exact ok0
  · split
    · show (0 : Int) ≤ _ ∧ _ ≤ (18446744073709551615 : Int); dsimp only; omega
    · show (0 : Int) ≤ _ ∧ _ ≤ (18446744073709551615 : Int); dsimp only; omega
set_option maxRecDepth 100000 in
set_option maxHeartbeats 4000000 in
theorem key1_any {B : Nat} {q : Ptrs} {most flags : Int} {κ : Nat → Nat} {x : BS} {w : World} (n1 n2 : Nat) (k : ByteArray) (hk : k.size ≤ 1048576) (hg : x.Good) (hx : x.e = 0) (he : Env B q most flags w κ [(n2, Obj.cells #[.string k] 9 (0, 0)), (n1, Obj.cells #[bptr q.p] 23 (0, 0))] x w) : Calls Tryz.prog 94 #[.pointer (some ⟨n1, 0, none⟩), .pointer (some ⟨n2, 0, none⟩)] w fun r w' => r = .returned (.tuple #[]) ∧ TurnX B q most flags κ (x.key most (onF flags 1) k) w w' := by
  have HE := Lib.hid he
  clear he
  have HM2 : Hid ((n2, Obj.cells #[.string k] 9 (0, 0)) ∈ ([(n2, Obj.cells #[.string k] 9 (0, 0)), (n1, Obj.cells #[bptr q.p] 23 (0, 0))] : List (Nat × Obj))) := List.mem_cons_self
  have HM1 : Hid ((n1, Obj.cells #[bptr q.p] 23 (0, 0)) ∈ ([(n2, Obj.cells #[.string k] 9 (0, 0)), (n1, Obj.cells #[bptr q.p] 23 (0, 0))] : List (Nat × Obj))) := List.mem_cons_of_mem _ (List.mem_cons_self)
  have HPC : Hid (∀ κ1 w2, Bd B q most flags κ1 x w2 → Calls Tryz.prog 95 #[bptr q.p, .string k] w2 fun r w' => r = .returned (vV (x.put most (onF flags 1) k).1) ∧ TurnX B q most flags κ1 (x.put most (onF flags 1) k).2 w2 w') := fun κ1 w2 hb => bput_any k hk hg hb
  have HVO : Hid (okV (x.put most (onF flags 1) k).1) := BS.put_ok HE.out.ok
  have HY : Hid (x.key most (onF flags 1) k = (x.put most (onF flags 1) k).2.push (x.put most (onF flags 1) k).1) := by show _ = _; unfold BS.key; rw [if_pos hx]
  clear hk hg hx
  generalize (x.put most (onF flags 1) k) = P at *
  obtain ⟨⟨ty, wd, n⟩, y⟩ := P
  go_enter Tryz.func94, Tryz.ntmps94
  go_wp2_with fail
  refine wp_region_phases [5, 6] (EnvW B q most flags w κ [(n2, Obj.cells #[.string k] 9 (0, 0)), (n1, Obj.cells #[bptr q.p] 23 (0, 0))] [x, y] (y.push (ty, wd, n))) (fun _ w w' => Grew w w') ((fun p (_ : Nat → Value) => (fun _ _ _ => True) p)) [[], [0], [0, 1], [], [], [3, 4], [0, 1, 2, 3, 4, 5]] [[(5, 3), (6, 4), (7, 5)], [(2, 0), (5, 3), (6, 4), (7, 5)], [(2, 0), (3, 1), (5, 3), (6, 4), (7, 5)], [(2, 0), (3, 1), (4, 2), (6, 4)], [(2, 0), (3, 1), (4, 2), (5, 3)], [(2, 0), (3, 1), (4, 2), (5, 3), (6, 4)], [(2, 0), (3, 1), (4, 2), (5, 3), (6, 4), (7, 5)]] [(2, 0), (3, 1), (4, 2), (5, 3), (6, 4), (7, 5), (8, 6)]
    [IsP (bptr q.p), IsP (bptr q.p), IsP (bptr q.p), IsP (bptr q.p), IsP (.string k), IsP (.agg #[.int .i64 ty, .int .i64 wd, .int .u64 n]), IsP (.tuple #[])]
    (by kernel_rfl) (EnvW.grew) (HE.out.grew (Grew.refl _).drew) (by kernel_rfl) (by kernel_rfl) ⟨isP_st, isP_st, isP_st, isP_st, isP_st, isP_st, isP_st, trivial⟩ rfl ?_ ?_
  · intro y w2 hW hF
    simp only [factsP, IsP, Nat.reduceAdd, List.length_cons, List.length_nil] at hF hW
    have h0 := hF.1
    have h1 := hF.2.1
    have h2 := hF.2.2.1
    have h3 := hF.2.2.2.1
    have h4 := hF.2.2.2.2.1
    have h5 := hF.2.2.2.2.2.1
    have h6 := hF.2.2.2.2.2.2.1
    clear hF
    simp only [fillL, Act.put, List.setIfInBounds_toArray, List.set_cons_zero, List.set_cons_succ, List.getD_cons_zero, List.getD_cons_succ]
    simp only [h0, h1, h2, h3, h4, h5, h6]
    clear h0 h1 h2 h3 h4 h5 h6
    go_wp2
    go_end0
    exact ⟨rfl, by rw [HY.out]; exact Env.turn hW⟩
  refine ⟨?_, ?_⟩
  · refine wordP_read 0 1 (by kernel_rfl) (by kernel_rfl) (by kernel_rfl) ?_
    intro y w2 p hlo hhi hW hD K hK
    have d10 := Env.cell hW HM1.out 0 _ rfl
    clear hD
    generalize hAA : fillL y _ _ = AA at hK ⊢
    simp only [fillL, Act.put, List.setIfInBounds_toArray, List.set_cons_zero, List.set_cons_succ, List.getD_cons_zero, List.getD_cons_succ, IsP] at hAA
    subst hAA
    simp only [List.getD_cons_zero, List.getD_cons_succ, IsP] at hK
    refine ite_yes (by rfl) ?_
    go_simp
    exact hK _ _ _ rfl (Grew.refl _) rfl
  refine ⟨?_, ?_⟩
  · refine wordP_read 0 1 (by kernel_rfl) (by kernel_rfl) (by kernel_rfl) ?_
    intro y w2 p hlo hhi hW hD K hK
    simp only [depsP, List.getD_cons_zero, List.getD_cons_succ, IsP] at hD
    have h0 := hD.1
    clear hD
    generalize hAA : fillL y _ _ = AA at hK ⊢
    simp only [fillL, Act.put, List.setIfInBounds_toArray, List.set_cons_zero, List.set_cons_succ, List.getD_cons_zero, List.getD_cons_succ, IsP] at hAA
    subst hAA
    simp only [List.getD_cons_zero, List.getD_cons_succ, IsP] at hK
    simp only [h0] at hK ⊢
    clear h0
    refine ite_yes (by rfl) ?_
    go_simp
    exact hK _ _ _ rfl (Grew.refl _) rfl
  refine ⟨?_, ?_⟩
  · refine wordP_read 0 1 (by kernel_rfl) (by kernel_rfl) (by kernel_rfl) ?_
    intro y w2 p hlo hhi hW hD K hK
    simp only [depsP, List.getD_cons_zero, List.getD_cons_succ, IsP] at hD
    have h0 := hD.1
    have h1 := hD.2.1
    clear hD
    generalize hAA : fillL y _ _ = AA at hK ⊢
    simp only [fillL, Act.put, List.setIfInBounds_toArray, List.set_cons_zero, List.set_cons_succ, List.getD_cons_zero, List.getD_cons_succ, IsP] at hAA
    subst hAA
    simp only [List.getD_cons_zero, List.getD_cons_succ, IsP] at hK
    simp only [h0, h1] at hK ⊢
    clear h0 h1
    refine ite_yes (by rfl) ?_
    go_simp
    exact hK _ _ _ rfl (Grew.refl _) rfl
  refine ⟨?_, ?_⟩
  · refine wordP_read 0 0 (by kernel_rfl) (by kernel_rfl) (by kernel_rfl) ?_
    intro y w2 p hlo hhi hW hD K hK
    have d10 := Env.cell hW HM1.out 0 _ rfl
    clear hD
    generalize hAA : fillL y _ _ = AA at hK ⊢
    simp only [fillL, Act.put, List.setIfInBounds_toArray, List.set_cons_zero, List.set_cons_succ, List.getD_cons_zero, List.getD_cons_succ, IsP] at hAA
    subst hAA
    simp only [List.getD_cons_zero, List.getD_cons_succ, IsP] at hK
    refine ite_yes (by rfl) ?_
    go_simp
    exact hK _ _ _ rfl (Grew.refl _) rfl
  refine ⟨?_, ?_⟩
  · refine wordP_read 0 0 (by kernel_rfl) (by kernel_rfl) (by kernel_rfl) ?_
    intro y w2 p hlo hhi hW hD K hK
    have d20 := Env.cell hW HM2.out 0 _ rfl
    clear hD
    generalize hAA : fillL y _ _ = AA at hK ⊢
    simp only [fillL, Act.put, List.setIfInBounds_toArray, List.set_cons_zero, List.set_cons_succ, List.getD_cons_zero, List.getD_cons_succ, IsP] at hAA
    subst hAA
    simp only [List.getD_cons_zero, List.getD_cons_succ, IsP] at hK
    refine ite_yes (by rfl) ?_
    go_simp
    exact hK _ _ _ rfl (Grew.refl _) rfl
  refine ⟨?_, ?_⟩
  · refine wordP_write 0 rfl ?_
    intro y w2 hW hD K hK
    simp only [depsP, List.getD_cons_zero, List.getD_cons_succ, IsP] at hD
    have h3 := hD.1
    have h4 := hD.2.1
    clear hD
    generalize hAA : fillL y _ _ = AA at hK ⊢
    simp only [fillL, Act.put, List.setIfInBounds_toArray, List.set_cons_zero, List.set_cons_succ, List.getD_cons_zero, List.getD_cons_succ, IsP] at hAA
    subst hAA
    simp only [List.getD_cons_zero, List.getD_cons_succ, IsP] at hK
    simp only [h3, h4] at hK ⊢
    clear h3 h4
    refine ite_yes (by rfl) ?_
    go_simp
    refine (Env.call hW fun κ1 hb hz => HPC.out κ1 w2 hb).mono ?_
    rintro r w3 ⟨rfl, he⟩
    exact hK _ _ _ rfl trivial he rfl
  refine ⟨?_, ?_⟩
  · refine wordP_write 1 rfl ?_
    intro y w2 hW hD K hK
    simp only [depsP, List.getD_cons_zero, List.getD_cons_succ, IsP] at hD
    have h0 := hD.1
    have h1 := hD.2.1
    have h2 := hD.2.2.1
    have h3 := hD.2.2.2.1
    have h4 := hD.2.2.2.2.1
    have h5 := hD.2.2.2.2.2.1
    clear hD
    generalize hAA : fillL y _ _ = AA at hK ⊢
    simp only [fillL, Act.put, List.setIfInBounds_toArray, List.set_cons_zero, List.set_cons_succ, List.getD_cons_zero, List.getD_cons_succ, IsP] at hAA
    subst hAA
    simp only [List.getD_cons_zero, List.getD_cons_succ, IsP] at hK
    simp only [h0, h1, h2, h3, h4, h5] at hK ⊢
    clear h0 h1 h2 h3 h4 h5
    refine ite_yes (by rfl) ?_
    go_simp
    refine (Env.call hW fun κ1 hb hz => ppush_any (ty, wd, n) HVO.out hb).mono ?_
    rintro r w3 ⟨rfl, he⟩
    exact hK _ _ _ rfl trivial he rfl
  trivial
theorem bkey_any {B : Nat} {q : Ptrs} {most flags : Int} {κ : Nat → Nat} {x : BS} {w : World} (k : ByteArray) (hk : k.size ≤ 1048576) (hg : x.Good) (h : Bd B q most flags κ x w) : Calls Tryz.prog 39 #[bptr q.p, .string k] w fun r w' => r = .returned (.tuple #[]) ∧ TurnX B q most flags κ (x.key most (onF flags 1) k) w w' := by
  have HH := Lib.hid (And.intro hk hg)
  have HE : Hid (Env B q most flags w κ [(w.heap.size + 1, Obj.cells #[.string k] 9 (0, 0)), (w.heap.size, Obj.cells #[bptr q.p] 23 (0, 0))] x ((w.alloc (.cells #[bptr q.p] 23)).alloc (.cells #[.string k] 9))) := by
    have hh := ((Env.start h).add (.cells #[bptr q.p] 23)).add (.cells #[.string k] 9)
    simp only [World.size_alloc, Nat.add_assoc, Nat.reduceAdd] at hh
    exact hh
  clear h hk hg
  go_enter Tryz.func39, Tryz.ntmps39
  go_wp2_with fail
  refine (HE.out.call' fun κ1 hb he => unless_any hb _ _ (x.key most (onF flags 1) k) (fun hx => by unfold BS.key; rw [if_neg hx]) (fun _ => enters_of Tryz.func94 (by kernel_rfl) rfl _ _) (fun hx => key1_any _ _ k HH.out.1 HH.out.2 hx he)).mono ?_
  rintro r w5 ⟨rfl, he⟩
  have HT := Lib.hid he
  clear he
  go_wp2
  go_end0
  exact ⟨rfl, HT.out.turn⟩
set_option maxRecDepth 100000 in
set_option maxHeartbeats 4000000 in
theorem btext_any {B : Nat} {q : Ptrs} {most flags : Int} {κ : Nat → Nat} {x : BS} {w : World} (t : Int) (k z : ByteArray) (hk : k.size ≤ 1048576) (hz : z.size ≤ 1000) (ht : x.texts.length ≤ 1048576) (h : Bd B q most flags κ x w) : Calls Tryz.prog 59 #[bptr q.p, .int .i64 t, .string k, .string z] w fun r w' => r = .returned (.tuple #[]) ∧ TurnX B q most flags κ (x.text most t k z) w w' := by
  have HE := Lib.hid (Env.start h)
  have HWO : Hid (∀ w, Calls Tryz.prog 58 #[.int .u64 (k.size : Int)] w fun r w' => r = .returned (.int .i64 (Ft.widthOf k.size)) ∧ w = w') := fun w => by have h := Ft.widthOf_any (k.size : Int) w (by omega) (by omega); rw [Int.toNat_natCast] at h; exact h
  have HIW : Hid (isW (Ft.widthOf k.size) = true) := widthOf_isW k.size
  obtain ⟨wd, hwd⟩ : ∃ u, Ft.widthOf k.size = u := ⟨_, rfl⟩
  rw [hwd] at HWO HIW
  have HLN : Hid ((numS most wd k.size (alignS most wd x.s)).1.length ≤ 1048576) := by have h1 := numS_le (x := wd) (u := (k.size : Int)) (alignS_le (x := wd) h.ok.len); have h2 := h.ok.m1; show _ ≤ _; omega
  have HVT : Hid (okV (t, wd, ((numS most wd k.size (alignS most wd x.s)).1.length : Int))) := by have h := HLN.out; show (0 : Int) ≤ ((numS most wd k.size (alignS most wd x.s)).1.length : Int) ∧ ((numS most wd k.size (alignS most wd x.s)).1.length : Int) ≤ 18446744073709551615; omega
  have hwa := u64_len _ HLN.out
  have hwk := u64_len _ hk
  have HSS : Hid (sizeS [k, z] ≤ 1073741824) := by show _ ≤ _; simp [sizeS]; omega
  have HTL := Lib.hid ht
  have HY : Hid (x.text most t k z = (({ x with s := putS most (bytesS [k, z]) (numS most wd k.size (alignS most wd x.s)), texts := if t = 5 then putP k ((numS most wd k.size (alignS most wd x.s)).1.length : Int) x.texts else x.texts } : BS).push (t, wd, ((numS most wd k.size (alignS most wd x.s)).1.length : Int)))) := by show _ = _; unfold BS.text; rw [hwd]
  clear h hwd ht hz
  have c0 := HE.out.at0
  go_enter Tryz.func59, Tryz.ntmps59
  go_wp2_with fail
  refine (HWO.out w).mono ?_
  rintro r w1 ⟨rfl, hw1⟩
  obtain rfl : w = w1 := hw1
  go_wp2_with fail
  refine (HE.out.call fun κ1 hb hz => hb.buf_calls (alignS_le hb.ok.len) (fun o ho _ => align_any x.s wd ho (Nat.zero_le _) hb.ok.len hb.ok.m1)).mono ?_
  rintro r w2 ⟨rfl, he⟩
  have HE1 := Lib.hid he
  clear he c0
  have c0 := HE1.out.at0
  go_wp2_with fail
  refine (HE1.out.call fun κ1 hb hz => hb.buf_calls (x := { x with s := alignS most wd x.s }) (numS_le hb.ok.len) (fun o ho _ => num_any (alignS most wd x.s) wd (k.size : Int) ho (Nat.zero_le _) hb.ok.len hb.ok.m1 (by omega) (by omega))).mono ?_
  rintro r w3 ⟨rfl, he⟩
  have HE2 := Lib.hid he
  clear he c0
  have c0 := HE2.out.at0
  go_wp2_with fail
  refine HE2.out.buflen.mono ?_
  rintro r w9 ⟨rfl, hw9⟩
  obtain rfl : w3 = w9 := hw9.symm
  go_wp2_with fail
  refine (HE2.out.text2 k z HSS.out).mono ?_
  rintro r w4 ⟨rfl, he⟩
  have HE3 := Lib.hid he
  clear he c0
  have c5 := HE3.out.at5
  by_cases h5 : t = 5
  · have HY5 : Hid (x.text most t k z = ({ x with s := putS most (bytesS [k, z]) (numS most wd k.size (alignS most wd x.s)), texts := putP k ((numS most wd k.size (alignS most wd x.s)).1.length : Int) x.texts } : BS).push (t, wd, ((numS most wd k.size (alignS most wd x.s)).1.length : Int))) := by show _ = _; rw [HY.out, if_pos h5]
    subst h5
    go_wp2_with fail
    refine (HE3.out.textsPut k ((numS most wd k.size (alignS most wd x.s)).1.length : Int) (show ({ x with s := putS most (bytesS [k, z]) (numS most wd k.size (alignS most wd x.s)) } : BS).texts.length ≤ 1048576 from HTL.out)).mono ?_
    rintro r w5 ⟨rfl, he⟩
    have HE4 := Lib.hid he
    clear he c5
    go_wp2_with fail
    refine (HE4.out.call fun κ1 hb hz => ppush_any (5, wd, ((numS most wd k.size (alignS most wd x.s)).1.length : Int)) HVT.out hb).mono ?_
    rintro r w6 ⟨rfl, he⟩
    have HE5 := Lib.hid he
    clear he
    go_wp2
    go_end0
    exact ⟨rfl, by rw [HY5.out]; exact HE5.out.turn⟩
  · have HY5 : Hid (x.text most t k z = ({ x with s := putS most (bytesS [k, z]) (numS most wd k.size (alignS most wd x.s)) } : BS).push (t, wd, ((numS most wd k.size (alignS most wd x.s)).1.length : Int))) := by show _ = _; rw [HY.out, if_neg h5]
    go_wp2_with fail
    refine (HE3.out.call fun κ1 hb hz => ppush_any (t, wd, ((numS most wd k.size (alignS most wd x.s)).1.length : Int)) HVT.out hb).mono ?_
    rintro r w6 ⟨rfl, he⟩
    have HE5 := Lib.hid he
    clear he
    go_wp2
    go_end0
    exact ⟨rfl, by rw [HY5.out]; exact HE5.out.turn⟩
theorem blob1_any {B : Nat} {q : Ptrs} {most flags : Int} {κ : Nat → Nat} {x : BS} {w : World} (n1 n2 : Nat) (k : ByteArray) (hk : k.size ≤ 1048576) (hg : x.Good) (hx : x.e = 0) (he : Env B q most flags w κ [(n2, Obj.cells #[.string k] 9 (0, 0)), (n1, Obj.cells #[bptr q.p] 23 (0, 0))] x w) : Calls Tryz.prog 90 #[.pointer (some ⟨n1, 0, none⟩), .pointer (some ⟨n2, 0, none⟩)] w fun r w' => r = .returned (.tuple #[]) ∧ TurnX B q most flags κ (x.blob most k) w w' := by
  have HY : Hid (x.blob most k = x.text most 25 k ByteArray.empty) := by show _ = _; unfold BS.blob; rw [if_pos hx]
  have HTL : Hid (x.texts.length ≤ 1048576) := Nat.le_trans (hg.ts hx) he.len
  have HE := Lib.hid he
  have HM2 : Hid ((n2, Obj.cells #[.string k] 9 (0, 0)) ∈ ([(n2, Obj.cells #[.string k] 9 (0, 0)), (n1, Obj.cells #[bptr q.p] 23 (0, 0))] : List (Nat × Obj))) := List.mem_cons_self
  have HM1 : Hid ((n1, Obj.cells #[bptr q.p] 23 (0, 0)) ∈ ([(n2, Obj.cells #[.string k] 9 (0, 0)), (n1, Obj.cells #[bptr q.p] 23 (0, 0))] : List (Nat × Obj))) := List.mem_cons_of_mem _ (List.mem_cons_self)
  have cb := Env.cell he HM1.out 0 _ rfl
  have ck := Env.cell he HM2.out 0 _ rfl
  clear he hx hg
  go_enter Tryz.func90, Tryz.ntmps90
  go_wp2_with fail
  refine (HE.out.call fun κ1 hb hz => btext_any 25 k ByteArray.empty hk (by decide) HTL.out hb).mono ?_
  rintro r w6 ⟨rfl, he⟩
  have HE5 := Lib.hid he
  clear he
  go_wp2
  go_end0
  exact ⟨rfl, by rw [HY.out]; exact HE5.out.turn⟩
theorem bblob_any {B : Nat} {q : Ptrs} {most flags : Int} {κ : Nat → Nat} {x : BS} {w : World} (k : ByteArray) (hk : k.size ≤ 1048576) (hg : x.Good) (h : Bd B q most flags κ x w) : Calls Tryz.prog 29 #[bptr q.p, .string k] w fun r w' => r = .returned (.tuple #[]) ∧ TurnX B q most flags κ (x.blob most k) w w' := by
  have HH := Lib.hid (And.intro hk hg)
  have HE : Hid (Env B q most flags w κ [(w.heap.size + 1, Obj.cells #[.string k] 9 (0, 0)), (w.heap.size, Obj.cells #[bptr q.p] 23 (0, 0))] x ((w.alloc (.cells #[bptr q.p] 23)).alloc (.cells #[.string k] 9))) := by
    have hh := ((Env.start h).add (.cells #[bptr q.p] 23)).add (.cells #[.string k] 9)
    simp only [World.size_alloc, Nat.add_assoc, Nat.reduceAdd] at hh
    exact hh
  clear h hk hg
  go_enter Tryz.func29, Tryz.ntmps29
  go_wp2_with fail
  refine (HE.out.call' fun κ1 hb he => unless_any hb _ _ (x.blob most k) (fun hx => by unfold BS.blob; rw [if_neg hx]) (fun _ => enters_of Tryz.func90 (by kernel_rfl) rfl _ _) (fun hx => blob1_any _ _ k HH.out.1 HH.out.2 hx he)).mono ?_
  rintro r w5 ⟨rfl, he⟩
  have HT := Lib.hid he
  clear he
  go_wp2
  go_end0
  exact ⟨rfl, HT.out.turn⟩
set_option maxRecDepth 100000 in
set_option maxHeartbeats 8000000 in
theorem str1_any {B : Nat} {q : Ptrs} {most flags : Int} {κ : Nat → Nat} {x : BS} {w : World} (n1 n2 : Nat) (k : ByteArray) (hk : k.size ≤ 1048576) (hg : x.Good) (hx : x.e = 0) (he : Env B q most flags w κ [(n2, Obj.cells #[.string k] 9 (0, 0)), (n1, Obj.cells #[bptr q.p] 23 (0, 0))] x w) : Calls Tryz.prog 54 #[.pointer (some ⟨n1, 0, none⟩), .pointer (some ⟨n2, 0, none⟩)] w fun r w' => r = .returned (.tuple #[]) ∧ TurnX B q most flags κ (x.str most (onF flags 2) k) w w' := by
  have HE := Lib.hid he
  have HTL : Hid (x.texts.length ≤ 1048576) := Nat.le_trans (hg.ts hx) he.len
  have HGO := Lib.hid (getP_ok (k := k) he.ok.okT)
  have HM2 : Hid ((n2, Obj.cells #[.string k] 9 (0, 0)) ∈ ([(n2, Obj.cells #[.string k] 9 (0, 0)), (n1, Obj.cells #[bptr q.p] 23 (0, 0))] : List (Nat × Obj))) := List.mem_cons_self
  have HM1 : Hid ((n1, Obj.cells #[bptr q.p] 23 (0, 0)) ∈ ([(n2, Obj.cells #[.string k] 9 (0, 0)), (n1, Obj.cells #[bptr q.p] 23 (0, 0))] : List (Nat × Obj))) := List.mem_cons_of_mem _ (List.mem_cons_self)
  have HPB : Hid (x.str most (onF flags 2) k = if (getP x.texts k).2 && onF flags 2 then x.push (5, Ft.widthOf k.size, (getP x.texts k).1) else x.text most 5 k ⟨#[0]⟩) := by show _ = _; unfold BS.str; rw [if_pos hx]
  have HGE : Hid (∀ w2, Env B q most flags w κ [(n2, Obj.cells #[.string k] 9 (0, 0)), (n1, Obj.cells #[bptr q.p] 23 (0, 0))] x w2 → Calls Tryz.prog 55 #[bptr q.t, .string k] w2 fun r w' => r = .returned (.tuple #[.int .i64 (getP x.texts k).1, .bool (getP x.texts k).2]) ∧ Grew w2 w') := fun w2 h => h.textsGet k
  generalize getP x.texts k = g at HPB HGE HGO
  obtain ⟨ga, gb⟩ := g
  clear he hx hg
  have hwk := u64_len _ hk
  have HWO : Hid (∀ w, Calls Tryz.prog 58 #[.int .u64 (k.size : Int)] w fun r w' => r = .returned (.int .i64 (Ft.widthOf k.size)) ∧ w = w') := fun w => by have h := Ft.widthOf_any (k.size : Int) w (by omega) (by omega); rw [Int.toNat_natCast] at h; exact h
  have hwa : IntKind.u64.wrap ga = ga := by have h := HGO.out; simp [IntKind.wrap, IntKind.bits, IntKind.signed]; omega
  have HVT : Hid (okV (5, Ft.widthOf k.size, ga)) := by have h := HGO.out; show (0 : Int) ≤ ga ∧ ga ≤ 18446744073709551615; omega
  go_enter Tryz.func54, Tryz.ntmps54
  go_wp2_with fail
  refine wp_region_phases [] (EnvW B q most flags w κ [(n2, Obj.cells #[.string k] 9 (0, 0)), (n1, Obj.cells #[bptr q.p] 23 (0, 0))] [x] (x)) (fun _ w w' => Grew w w') ((fun p (_ : Nat → Value) => (fun _ _ _ => True) p)) [[], [0], [0, 1], [0, 1, 2], [0, 1, 2, 3], [], [0, 1, 2, 3, 4, 5], [0, 1, 2, 3, 4, 5, 6], [0, 1, 2, 3, 4, 5, 6, 7], [0, 1, 2, 3, 4, 5, 6, 7], [0, 1, 2, 3, 4, 5, 6, 7, 8], [0, 1, 2, 3, 4, 5, 6, 7, 8, 9, 10]] [[(10, 5)], [(5, 0), (10, 5)], [(5, 0), (6, 1), (10, 5)], [(5, 0), (6, 1), (7, 2), (10, 5)], [(5, 0), (6, 1), (7, 2), (8, 3), (10, 5)], [(5, 0), (6, 1), (7, 2), (8, 3), (9, 4)], [(5, 0), (6, 1), (7, 2), (8, 3), (9, 4), (10, 5)], [(5, 0), (6, 1), (7, 2), (8, 3), (9, 4), (10, 5), (11, 6)], [(5, 0), (6, 1), (7, 2), (8, 3), (9, 4), (10, 5), (11, 6), (4, 7), (13, 9)], [(5, 0), (6, 1), (7, 2), (8, 3), (9, 4), (10, 5), (11, 6), (4, 7), (12, 8), (2, 10)], [(5, 0), (6, 1), (7, 2), (8, 3), (9, 4), (10, 5), (11, 6), (4, 7), (12, 8), (13, 9)], [(5, 0), (6, 1), (7, 2), (8, 3), (9, 4), (10, 5), (11, 6), (4, 7), (12, 8), (13, 9), (2, 10)]] [(5, 0), (6, 1), (7, 2), (8, 3), (9, 4), (10, 5), (11, 6), (4, 7), (12, 8), (13, 9), (2, 10), (3, 11)]
    [IsP (bptr q.p), IsP (bptr q.p), IsP (.pointer (some ⟨q.p, 3, none⟩)), IsP (.pointer (some ⟨q.p, 5, none⟩)), IsP (bptr q.t), IsP (.string k), IsP (.tuple #[.int .i64 ga, .bool gb]), IsP (.tuple #[.int .i64 ga, .bool gb]), IsP (.int .i64 ga), IsP (.bool gb), IsP (.int .i64 ga), IsP (.bool gb)]
    (by kernel_rfl) (EnvW.grew) (HE.out.grew (Grew.refl _).drew) (by kernel_rfl) (by kernel_rfl) ⟨isP_st, isP_st, isP_st, isP_st, isP_st, isP_st, isP_st, isP_st, isP_st, isP_st, isP_st, isP_st, trivial⟩ rfl ?_ ?_
  · intro y w2 hW hF
    simp only [factsP, IsP, Nat.reduceAdd, List.length_cons, List.length_nil] at hF hW
    have h0 := hF.1
    have h1 := hF.2.1
    have h2 := hF.2.2.1
    have h3 := hF.2.2.2.1
    have h4 := hF.2.2.2.2.1
    have h5 := hF.2.2.2.2.2.1
    have h6 := hF.2.2.2.2.2.2.1
    have h7 := hF.2.2.2.2.2.2.2.1
    have h8 := hF.2.2.2.2.2.2.2.2.1
    have h9 := hF.2.2.2.2.2.2.2.2.2.1
    have h10 := hF.2.2.2.2.2.2.2.2.2.2.1
    have h11 := hF.2.2.2.2.2.2.2.2.2.2.2.1
    clear hF
    simp only [fillL, Act.put, List.setIfInBounds_toArray, List.set_cons_zero, List.set_cons_succ, List.getD_cons_zero, List.getD_cons_succ]
    simp only [h0, h1, h2, h3, h4, h5, h6, h7, h8, h9, h10, h11]
    clear h0 h1 h2 h3 h4 h5 h6 h7 h8 h9 h10 h11
    have HE1 : Hid (Env B q most flags w κ [(n2, Obj.cells #[.string k] 9 (0, 0)), (n1, Obj.cells #[bptr q.p] 23 (0, 0))] x w2) := hW
    cases gb with
    | false =>
      have HP : Hid (x.str most (onF flags 2) k = x.text most 5 k ⟨#[0]⟩) := (by have h := HPB.out; show _ = _; simpa using h)
      have cb := Env.cell HE1.out HM1.out 0 _ rfl
      have ck := Env.cell HE1.out HM2.out 0 _ rfl
      go_wp2_with fail
      refine (HE1.out.call fun κ1 hb hz => btext_any 5 k ⟨#[0]⟩ hk (by decide) HTL.out hb).mono ?_
      rintro r w6 ⟨rfl, he⟩
      have HE5 := Lib.hid he
      clear he
      go_wp2
      go_end0
      exact ⟨rfl, by rw [HP.out]; exact HE5.out.turn⟩
    | true =>
      cases ho : onF flags 2 with
      | false =>
        have HO := Lib.hid ho
        have HPZ := Lib.hid (show (x.str most (onF flags 2) k = x.text most 5 k ⟨#[0]⟩) by have h := HPB.out; show _ = _; rw [ho] at h; rw [ho]; simpa using h)
        clear ho
        have cb := Env.cell HE1.out HM1.out 0 _ rfl
        go_wp2_with fail
        refine (HE1.out.onE 2).mono ?_
        rw [HO.out]
        rintro r w9 ⟨rfl, hw9⟩
        obtain rfl : w2 = w9 := hw9.symm
        clear cb
        have HP : Hid (x.str most (onF flags 2) k = x.text most 5 k ⟨#[0]⟩) := HPZ.out
        have cb := Env.cell HE1.out HM1.out 0 _ rfl
        have ck := Env.cell HE1.out HM2.out 0 _ rfl
        go_wp2_with fail
        refine (HE1.out.call fun κ1 hb hz => btext_any 5 k ⟨#[0]⟩ hk (by decide) HTL.out hb).mono ?_
        rintro r w6 ⟨rfl, he⟩
        have HE5 := Lib.hid he
        clear he
        go_wp2
        go_end0
        exact ⟨rfl, by rw [HP.out]; exact HE5.out.turn⟩
      | true =>
        have HO := Lib.hid ho
        have HP : Hid (x.str most (onF flags 2) k = x.push (5, Ft.widthOf k.size, ga)) := by have h := HPB.out; show _ = _; rw [ho] at h; rw [ho]; simpa using h
        clear ho
        have cb := Env.cell HE1.out HM1.out 0 _ rfl
        go_wp2_with fail
        refine (HE1.out.onE 2).mono ?_
        rw [HO.out]
        rintro r w9 ⟨rfl, hw9⟩
        obtain rfl : w2 = w9 := hw9.symm
        clear cb
        go_wp2_with fail
        refine wp_region_phases [10] (EnvW B q most flags w κ [(n2, Obj.cells #[.string k] 9 (0, 0)), (n1, Obj.cells #[bptr q.p] 23 (0, 0))] [x] (x.push (5, Ft.widthOf k.size, ga))) (fun _ w w' => Grew w w') ((fun p (_ : Nat → Value) => (fun _ _ _ => True) p)) [[], [0], [0, 1], [], [3], [3, 4], [3, 4, 5], [], [7], [3, 4, 5, 6, 7, 8], [0, 1, 2, 3, 4, 5, 6, 7, 8, 9]] [[(24, 3), (25, 4), (26, 5), (27, 6), (28, 7), (29, 8), (30, 9)], [(21, 0), (24, 3), (25, 4), (26, 5), (27, 6), (28, 7), (29, 8), (30, 9)], [(21, 0), (22, 1), (24, 3), (25, 4), (26, 5), (27, 6), (28, 7), (29, 8), (30, 9)], [(21, 0), (22, 1), (23, 2), (28, 7), (29, 8)], [(21, 0), (22, 1), (23, 2), (24, 3), (28, 7), (29, 8)], [(21, 0), (22, 1), (23, 2), (24, 3), (25, 4), (28, 7), (29, 8)], [(21, 0), (22, 1), (23, 2), (24, 3), (25, 4), (26, 5), (28, 7), (29, 8)], [(21, 0), (22, 1), (23, 2), (24, 3), (25, 4), (26, 5), (27, 6)], [(21, 0), (22, 1), (23, 2), (24, 3), (25, 4), (26, 5), (27, 6), (28, 7)], [(21, 0), (22, 1), (23, 2), (24, 3), (25, 4), (26, 5), (27, 6), (28, 7), (29, 8)], [(21, 0), (22, 1), (23, 2), (24, 3), (25, 4), (26, 5), (27, 6), (28, 7), (29, 8), (30, 9)]] [(21, 0), (22, 1), (23, 2), (24, 3), (25, 4), (26, 5), (27, 6), (28, 7), (29, 8), (30, 9), (31, 10)]
          [IsP (bptr q.p), IsP (bptr q.p), IsP (bptr q.p), IsP (.string k), IsP (.int .i64 k.size), IsP (.int .u64 k.size), IsP (.int .i64 (Ft.widthOf k.size)), IsP (.int .i64 ga), IsP (.int .u64 ga), IsP (.agg #[.int .i64 5, .int .i64 (Ft.widthOf k.size), .int .u64 ga]), IsP (.tuple #[])]
          (by kernel_rfl) (EnvW.grew) (HE1.out.grew (Grew.refl _).drew) (by kernel_rfl) (by kernel_rfl) ⟨isP_st, isP_st, isP_st, isP_st, isP_st, isP_st, isP_st, isP_st, isP_st, isP_st, isP_st, trivial⟩ rfl ?_ ?_
        · intro y w2 hW hF
          simp only [factsP, IsP, Nat.reduceAdd, List.length_cons, List.length_nil] at hF hW
          have h0 := hF.1
          have h1 := hF.2.1
          have h2 := hF.2.2.1
          have h3 := hF.2.2.2.1
          have h4 := hF.2.2.2.2.1
          have h5 := hF.2.2.2.2.2.1
          have h6 := hF.2.2.2.2.2.2.1
          have h7 := hF.2.2.2.2.2.2.2.1
          have h8 := hF.2.2.2.2.2.2.2.2.1
          have h9 := hF.2.2.2.2.2.2.2.2.2.1
          have h10 := hF.2.2.2.2.2.2.2.2.2.2.1
          clear hF
          simp only [fillL, Act.put, List.setIfInBounds_toArray, List.set_cons_zero, List.set_cons_succ, List.getD_cons_zero, List.getD_cons_succ]
          simp only [h0, h1, h2, h3, h4, h5, h6, h7, h8, h9, h10]
          clear h0 h1 h2 h3 h4 h5 h6 h7 h8 h9 h10
          go_wp2
          refine bodyPost_ret (results_none rfl _ _ _) rfl ?_
          exact ⟨rfl, by rw [HP.out]; exact Env.turn hW⟩
        refine ⟨?_, ?_⟩
        · refine wordP_read 0 0 (by kernel_rfl) (by kernel_rfl) (by kernel_rfl) ?_
          intro y w2 p hlo hhi hW hD K hK
          have d10 := Env.cell hW HM1.out 0 _ rfl
          clear hD
          generalize hAA : fillL y _ _ = AA at hK ⊢
          simp only [fillL, Act.put, List.setIfInBounds_toArray, List.set_cons_zero, List.set_cons_succ, List.getD_cons_zero, List.getD_cons_succ, IsP] at hAA
          subst hAA
          simp only [List.getD_cons_zero, List.getD_cons_succ, IsP] at hK
          refine ite_yes (by rfl) ?_
          go_simp
          exact hK _ _ _ rfl (Grew.refl _) rfl
        refine ⟨?_, ?_⟩
        · refine wordP_read 0 0 (by kernel_rfl) (by kernel_rfl) (by kernel_rfl) ?_
          intro y w2 p hlo hhi hW hD K hK
          simp only [depsP, List.getD_cons_zero, List.getD_cons_succ, IsP] at hD
          have h0 := hD.1
          clear hD
          generalize hAA : fillL y _ _ = AA at hK ⊢
          simp only [fillL, Act.put, List.setIfInBounds_toArray, List.set_cons_zero, List.set_cons_succ, List.getD_cons_zero, List.getD_cons_succ, IsP] at hAA
          subst hAA
          simp only [List.getD_cons_zero, List.getD_cons_succ, IsP] at hK
          simp only [h0] at hK ⊢
          clear h0
          refine ite_yes (by rfl) ?_
          go_simp
          exact hK _ _ _ rfl (Grew.refl _) rfl
        refine ⟨?_, ?_⟩
        · refine wordP_read 0 0 (by kernel_rfl) (by kernel_rfl) (by kernel_rfl) ?_
          intro y w2 p hlo hhi hW hD K hK
          simp only [depsP, List.getD_cons_zero, List.getD_cons_succ, IsP] at hD
          have h0 := hD.1
          have h1 := hD.2.1
          clear hD
          generalize hAA : fillL y _ _ = AA at hK ⊢
          simp only [fillL, Act.put, List.setIfInBounds_toArray, List.set_cons_zero, List.set_cons_succ, List.getD_cons_zero, List.getD_cons_succ, IsP] at hAA
          subst hAA
          simp only [List.getD_cons_zero, List.getD_cons_succ, IsP] at hK
          simp only [h0, h1] at hK ⊢
          clear h0 h1
          refine ite_yes (by rfl) ?_
          go_simp
          exact hK _ _ _ rfl (Grew.refl _) rfl
        refine ⟨?_, ?_⟩
        · refine wordP_read 0 0 (by kernel_rfl) (by kernel_rfl) (by kernel_rfl) ?_
          intro y w2 p hlo hhi hW hD K hK
          have d20 := Env.cell hW HM2.out 0 _ rfl
          clear hD
          generalize hAA : fillL y _ _ = AA at hK ⊢
          simp only [fillL, Act.put, List.setIfInBounds_toArray, List.set_cons_zero, List.set_cons_succ, List.getD_cons_zero, List.getD_cons_succ, IsP] at hAA
          subst hAA
          simp only [List.getD_cons_zero, List.getD_cons_succ, IsP] at hK
          refine ite_yes (by rfl) ?_
          go_simp
          exact hK _ _ _ rfl (Grew.refl _) rfl
        refine ⟨?_, ?_⟩
        · refine wordP_read 0 0 (by kernel_rfl) (by kernel_rfl) (by kernel_rfl) ?_
          intro y w2 p hlo hhi hW hD K hK
          simp only [depsP, List.getD_cons_zero, List.getD_cons_succ, IsP] at hD
          have h3 := hD.1
          clear hD
          generalize hAA : fillL y _ _ = AA at hK ⊢
          simp only [fillL, Act.put, List.setIfInBounds_toArray, List.set_cons_zero, List.set_cons_succ, List.getD_cons_zero, List.getD_cons_succ, IsP] at hAA
          subst hAA
          simp only [List.getD_cons_zero, List.getD_cons_succ, IsP] at hK
          simp only [h3] at hK ⊢
          clear h3
          refine ite_yes (by rfl) ?_
          go_simp
          exact hK _ _ _ rfl (Grew.refl _) rfl
        refine ⟨?_, ?_⟩
        · refine wordP_read 0 0 (by kernel_rfl) (by kernel_rfl) (by kernel_rfl) ?_
          intro y w2 p hlo hhi hW hD K hK
          simp only [depsP, List.getD_cons_zero, List.getD_cons_succ, IsP] at hD
          have h3 := hD.1
          have h4 := hD.2.1
          clear hD
          generalize hAA : fillL y _ _ = AA at hK ⊢
          simp only [fillL, Act.put, List.setIfInBounds_toArray, List.set_cons_zero, List.set_cons_succ, List.getD_cons_zero, List.getD_cons_succ, IsP] at hAA
          subst hAA
          simp only [List.getD_cons_zero, List.getD_cons_succ, IsP] at hK
          simp only [h3, h4] at hK ⊢
          clear h3 h4
          refine ite_yes (by rfl) ?_
          go_simp
          exact hK _ _ _ rfl (Grew.refl _) rfl
        refine ⟨?_, ?_⟩
        · refine wordP_read 0 0 (by kernel_rfl) (by kernel_rfl) (by kernel_rfl) ?_
          intro y w2 p hlo hhi hW hD K hK
          simp only [depsP, List.getD_cons_zero, List.getD_cons_succ, IsP] at hD
          have h3 := hD.1
          have h4 := hD.2.1
          have h5 := hD.2.2.1
          clear hD
          generalize hAA : fillL y _ _ = AA at hK ⊢
          simp only [fillL, Act.put, List.setIfInBounds_toArray, List.set_cons_zero, List.set_cons_succ, List.getD_cons_zero, List.getD_cons_succ, IsP] at hAA
          subst hAA
          simp only [List.getD_cons_zero, List.getD_cons_succ, IsP] at hK
          simp only [h3, h4, h5] at hK ⊢
          clear h3 h4 h5
          refine ite_yes (by rfl) ?_
          go_simp
          refine (HWO.out w2).mono ?_
          rintro r w3 ⟨rfl, hw3⟩
          exact hK _ _ _ rfl (by rw [← hw3]; exact Grew.refl _) rfl
        refine ⟨?_, ?_⟩
        · refine wordP_read 0 0 (by kernel_rfl) (by kernel_rfl) (by kernel_rfl) ?_
          intro y w2 p hlo hhi hW hD K hK
          clear hD
          generalize hAA : fillL y _ _ = AA at hK ⊢
          simp only [fillL, Act.put, List.setIfInBounds_toArray, List.set_cons_zero, List.set_cons_succ, List.getD_cons_zero, List.getD_cons_succ, IsP] at hAA
          subst hAA
          simp only [List.getD_cons_zero, List.getD_cons_succ, IsP] at hK
          refine ite_yes (by rfl) ?_
          go_simp
          exact hK _ _ _ rfl (Grew.refl _) rfl
        refine ⟨?_, ?_⟩
        · refine wordP_read 0 0 (by kernel_rfl) (by kernel_rfl) (by kernel_rfl) ?_
          intro y w2 p hlo hhi hW hD K hK
          simp only [depsP, List.getD_cons_zero, List.getD_cons_succ, IsP] at hD
          have h7 := hD.1
          clear hD
          generalize hAA : fillL y _ _ = AA at hK ⊢
          simp only [fillL, Act.put, List.setIfInBounds_toArray, List.set_cons_zero, List.set_cons_succ, List.getD_cons_zero, List.getD_cons_succ, IsP] at hAA
          subst hAA
          simp only [List.getD_cons_zero, List.getD_cons_succ, IsP] at hK
          simp only [h7] at hK ⊢
          clear h7
          refine ite_yes (by rfl) ?_
          go_simp
          exact hK _ _ _ rfl (Grew.refl _) rfl
        refine ⟨?_, ?_⟩
        · refine wordP_read 0 0 (by kernel_rfl) (by kernel_rfl) (by kernel_rfl) ?_
          intro y w2 p hlo hhi hW hD K hK
          simp only [depsP, List.getD_cons_zero, List.getD_cons_succ, IsP] at hD
          have h3 := hD.1
          have h4 := hD.2.1
          have h5 := hD.2.2.1
          have h6 := hD.2.2.2.1
          have h7 := hD.2.2.2.2.1
          have h8 := hD.2.2.2.2.2.1
          clear hD
          generalize hAA : fillL y _ _ = AA at hK ⊢
          simp only [fillL, Act.put, List.setIfInBounds_toArray, List.set_cons_zero, List.set_cons_succ, List.getD_cons_zero, List.getD_cons_succ, IsP] at hAA
          subst hAA
          simp only [List.getD_cons_zero, List.getD_cons_succ, IsP] at hK
          simp only [h3, h4, h5, h6, h7, h8] at hK ⊢
          clear h3 h4 h5 h6 h7 h8
          refine ite_yes (by rfl) ?_
          go_simp
          exact hK _ _ _ rfl (Grew.refl _) rfl
        refine ⟨?_, ?_⟩
        · refine wordP_write 0 rfl ?_
          intro y w2 hW hD K hK
          simp only [depsP, List.getD_cons_zero, List.getD_cons_succ, IsP] at hD
          have h0 := hD.1
          have h1 := hD.2.1
          have h2 := hD.2.2.1
          have h3 := hD.2.2.2.1
          have h4 := hD.2.2.2.2.1
          have h5 := hD.2.2.2.2.2.1
          have h6 := hD.2.2.2.2.2.2.1
          have h7 := hD.2.2.2.2.2.2.2.1
          have h8 := hD.2.2.2.2.2.2.2.2.1
          have h9 := hD.2.2.2.2.2.2.2.2.2.1
          clear hD
          generalize hAA : fillL y _ _ = AA at hK ⊢
          simp only [fillL, Act.put, List.setIfInBounds_toArray, List.set_cons_zero, List.set_cons_succ, List.getD_cons_zero, List.getD_cons_succ, IsP] at hAA
          subst hAA
          simp only [List.getD_cons_zero, List.getD_cons_succ, IsP] at hK
          simp only [h0, h1, h2, h3, h4, h5, h6, h7, h8, h9] at hK ⊢
          clear h0 h1 h2 h3 h4 h5 h6 h7 h8 h9
          refine ite_yes (by rfl) ?_
          go_simp
          refine (Env.call hW fun κ1 hb hz => ppush_any (5, Ft.widthOf k.size, ga) HVT.out hb).mono ?_
          rintro r w3 ⟨rfl, he⟩
          exact hK _ _ _ rfl trivial he rfl
        trivial
  refine ⟨?_, ?_⟩
  · refine wordP_read 0 0 (by kernel_rfl) (by kernel_rfl) (by kernel_rfl) ?_
    intro y w2 p hlo hhi hW hD K hK
    have d10 := Env.cell hW HM1.out 0 _ rfl
    clear hD
    generalize hAA : fillL y _ _ = AA at hK ⊢
    simp only [fillL, Act.put, List.setIfInBounds_toArray, List.set_cons_zero, List.set_cons_succ, List.getD_cons_zero, List.getD_cons_succ, IsP] at hAA
    subst hAA
    simp only [List.getD_cons_zero, List.getD_cons_succ, IsP] at hK
    refine ite_yes (by rfl) ?_
    go_simp
    exact hK _ _ _ rfl (Grew.refl _) rfl
  refine ⟨?_, ?_⟩
  · refine wordP_read 0 0 (by kernel_rfl) (by kernel_rfl) (by kernel_rfl) ?_
    intro y w2 p hlo hhi hW hD K hK
    simp only [depsP, List.getD_cons_zero, List.getD_cons_succ, IsP] at hD
    have h0 := hD.1
    clear hD
    generalize hAA : fillL y _ _ = AA at hK ⊢
    simp only [fillL, Act.put, List.setIfInBounds_toArray, List.set_cons_zero, List.set_cons_succ, List.getD_cons_zero, List.getD_cons_succ, IsP] at hAA
    subst hAA
    simp only [List.getD_cons_zero, List.getD_cons_succ, IsP] at hK
    simp only [h0] at hK ⊢
    clear h0
    refine ite_yes (by rfl) ?_
    go_simp
    exact hK _ _ _ rfl (Grew.refl _) rfl
  refine ⟨?_, ?_⟩
  · refine wordP_read 0 0 (by kernel_rfl) (by kernel_rfl) (by kernel_rfl) ?_
    intro y w2 p hlo hhi hW hD K hK
    simp only [depsP, List.getD_cons_zero, List.getD_cons_succ, IsP] at hD
    have h0 := hD.1
    have h1 := hD.2.1
    clear hD
    generalize hAA : fillL y _ _ = AA at hK ⊢
    simp only [fillL, Act.put, List.setIfInBounds_toArray, List.set_cons_zero, List.set_cons_succ, List.getD_cons_zero, List.getD_cons_succ, IsP] at hAA
    subst hAA
    simp only [List.getD_cons_zero, List.getD_cons_succ, IsP] at hK
    simp only [h0, h1] at hK ⊢
    clear h0 h1
    refine ite_yes (by rfl) ?_
    go_simp
    exact hK _ _ _ rfl (Grew.refl _) rfl
  refine ⟨?_, ?_⟩
  · refine wordP_read 0 0 (by kernel_rfl) (by kernel_rfl) (by kernel_rfl) ?_
    intro y w2 p hlo hhi hW hD K hK
    simp only [depsP, List.getD_cons_zero, List.getD_cons_succ, IsP] at hD
    have h0 := hD.1
    have h1 := hD.2.1
    have h2 := hD.2.2.1
    clear hD
    generalize hAA : fillL y _ _ = AA at hK ⊢
    simp only [fillL, Act.put, List.setIfInBounds_toArray, List.set_cons_zero, List.set_cons_succ, List.getD_cons_zero, List.getD_cons_succ, IsP] at hAA
    subst hAA
    simp only [List.getD_cons_zero, List.getD_cons_succ, IsP] at hK
    simp only [h0, h1, h2] at hK ⊢
    clear h0 h1 h2
    refine ite_yes (by rfl) ?_
    go_simp
    exact hK _ _ _ rfl (Grew.refl _) rfl
  refine ⟨?_, ?_⟩
  · refine wordP_read 0 0 (by kernel_rfl) (by kernel_rfl) (by kernel_rfl) ?_
    intro y w2 p hlo hhi hW hD K hK
    have dd := Env.at5 hW
    simp only [depsP, List.getD_cons_zero, List.getD_cons_succ, IsP] at hD
    have h0 := hD.1
    have h1 := hD.2.1
    have h2 := hD.2.2.1
    have h3 := hD.2.2.2.1
    clear hD
    generalize hAA : fillL y _ _ = AA at hK ⊢
    simp only [fillL, Act.put, List.setIfInBounds_toArray, List.set_cons_zero, List.set_cons_succ, List.getD_cons_zero, List.getD_cons_succ, IsP] at hAA
    subst hAA
    simp only [List.getD_cons_zero, List.getD_cons_succ, IsP] at hK
    simp only [h0, h1, h2, h3] at hK ⊢
    clear h0 h1 h2 h3
    refine ite_yes (by rfl) ?_
    go_simp
    exact hK _ _ _ rfl (Grew.refl _) rfl
  refine ⟨?_, ?_⟩
  · refine wordP_read 0 0 (by kernel_rfl) (by kernel_rfl) (by kernel_rfl) ?_
    intro y w2 p hlo hhi hW hD K hK
    have d20 := Env.cell hW HM2.out 0 _ rfl
    clear hD
    generalize hAA : fillL y _ _ = AA at hK ⊢
    simp only [fillL, Act.put, List.setIfInBounds_toArray, List.set_cons_zero, List.set_cons_succ, List.getD_cons_zero, List.getD_cons_succ, IsP] at hAA
    subst hAA
    simp only [List.getD_cons_zero, List.getD_cons_succ, IsP] at hK
    refine ite_yes (by rfl) ?_
    go_simp
    exact hK _ _ _ rfl (Grew.refl _) rfl
  refine ⟨?_, ?_⟩
  · refine wordP_read 0 0 (by kernel_rfl) (by kernel_rfl) (by kernel_rfl) ?_
    intro y w2 p hlo hhi hW hD K hK
    simp only [depsP, List.getD_cons_zero, List.getD_cons_succ, IsP] at hD
    have h0 := hD.1
    have h1 := hD.2.1
    have h2 := hD.2.2.1
    have h3 := hD.2.2.2.1
    have h4 := hD.2.2.2.2.1
    have h5 := hD.2.2.2.2.2.1
    clear hD
    generalize hAA : fillL y _ _ = AA at hK ⊢
    simp only [fillL, Act.put, List.setIfInBounds_toArray, List.set_cons_zero, List.set_cons_succ, List.getD_cons_zero, List.getD_cons_succ, IsP] at hAA
    subst hAA
    simp only [List.getD_cons_zero, List.getD_cons_succ, IsP] at hK
    simp only [h0, h1, h2, h3, h4, h5] at hK ⊢
    clear h0 h1 h2 h3 h4 h5
    refine ite_yes (by rfl) ?_
    go_simp
    obtain rfl : p = 0 := by omega
    refine (HGE.out w2 hW).mono ?_
    rintro r w3 ⟨rfl, hg3⟩
    exact hK _ _ _ rfl hg3 rfl
  refine ⟨?_, ?_⟩
  · refine wordP_read 0 0 (by kernel_rfl) (by kernel_rfl) (by kernel_rfl) ?_
    intro y w2 p hlo hhi hW hD K hK
    simp only [depsP, List.getD_cons_zero, List.getD_cons_succ, IsP] at hD
    have h0 := hD.1
    have h1 := hD.2.1
    have h2 := hD.2.2.1
    have h3 := hD.2.2.2.1
    have h4 := hD.2.2.2.2.1
    have h5 := hD.2.2.2.2.2.1
    have h6 := hD.2.2.2.2.2.2.1
    clear hD
    generalize hAA : fillL y _ _ = AA at hK ⊢
    simp only [fillL, Act.put, List.setIfInBounds_toArray, List.set_cons_zero, List.set_cons_succ, List.getD_cons_zero, List.getD_cons_succ, IsP] at hAA
    subst hAA
    simp only [List.getD_cons_zero, List.getD_cons_succ, IsP] at hK
    simp only [h0, h1, h2, h3, h4, h5, h6] at hK ⊢
    clear h0 h1 h2 h3 h4 h5 h6
    refine ite_yes (by rfl) ?_
    go_simp
    exact hK _ _ _ rfl (Grew.refl _) rfl
  refine ⟨?_, ?_⟩
  · refine wordP_read 0 0 (by kernel_rfl) (by kernel_rfl) (by kernel_rfl) ?_
    intro y w2 p hlo hhi hW hD K hK
    simp only [depsP, List.getD_cons_zero, List.getD_cons_succ, IsP] at hD
    have h0 := hD.1
    have h1 := hD.2.1
    have h2 := hD.2.2.1
    have h3 := hD.2.2.2.1
    have h4 := hD.2.2.2.2.1
    have h5 := hD.2.2.2.2.2.1
    have h6 := hD.2.2.2.2.2.2.1
    have h7 := hD.2.2.2.2.2.2.2.1
    clear hD
    generalize hAA : fillL y _ _ = AA at hK ⊢
    simp only [fillL, Act.put, List.setIfInBounds_toArray, List.set_cons_zero, List.set_cons_succ, List.getD_cons_zero, List.getD_cons_succ, IsP] at hAA
    subst hAA
    simp only [List.getD_cons_zero, List.getD_cons_succ, IsP] at hK
    simp only [h0, h1, h2, h3, h4, h5, h6, h7] at hK ⊢
    clear h0 h1 h2 h3 h4 h5 h6 h7
    refine ite_yes (by rfl) ?_
    go_simp
    exact hK _ _ _ rfl (Grew.refl _) rfl
  refine ⟨?_, ?_⟩
  · refine wordP_read 0 0 (by kernel_rfl) (by kernel_rfl) (by kernel_rfl) ?_
    intro y w2 p hlo hhi hW hD K hK
    simp only [depsP, List.getD_cons_zero, List.getD_cons_succ, IsP] at hD
    have h0 := hD.1
    have h1 := hD.2.1
    have h2 := hD.2.2.1
    have h3 := hD.2.2.2.1
    have h4 := hD.2.2.2.2.1
    have h5 := hD.2.2.2.2.2.1
    have h6 := hD.2.2.2.2.2.2.1
    have h7 := hD.2.2.2.2.2.2.2.1
    clear hD
    generalize hAA : fillL y _ _ = AA at hK ⊢
    simp only [fillL, Act.put, List.setIfInBounds_toArray, List.set_cons_zero, List.set_cons_succ, List.getD_cons_zero, List.getD_cons_succ, IsP] at hAA
    subst hAA
    simp only [List.getD_cons_zero, List.getD_cons_succ, IsP] at hK
    simp only [h0, h1, h2, h3, h4, h5, h6, h7] at hK ⊢
    clear h0 h1 h2 h3 h4 h5 h6 h7
    refine ite_yes (by rfl) ?_
    go_simp
    exact hK _ _ _ rfl (Grew.refl _) rfl
  refine ⟨?_, ?_⟩
  · refine wordP_read 0 0 (by kernel_rfl) (by kernel_rfl) (by kernel_rfl) ?_
    intro y w2 p hlo hhi hW hD K hK
    simp only [depsP, List.getD_cons_zero, List.getD_cons_succ, IsP] at hD
    have h0 := hD.1
    have h1 := hD.2.1
    have h2 := hD.2.2.1
    have h3 := hD.2.2.2.1
    have h4 := hD.2.2.2.2.1
    have h5 := hD.2.2.2.2.2.1
    have h6 := hD.2.2.2.2.2.2.1
    have h7 := hD.2.2.2.2.2.2.2.1
    have h8 := hD.2.2.2.2.2.2.2.2.1
    clear hD
    generalize hAA : fillL y _ _ = AA at hK ⊢
    simp only [fillL, Act.put, List.setIfInBounds_toArray, List.set_cons_zero, List.set_cons_succ, List.getD_cons_zero, List.getD_cons_succ, IsP] at hAA
    subst hAA
    simp only [List.getD_cons_zero, List.getD_cons_succ, IsP] at hK
    simp only [h0, h1, h2, h3, h4, h5, h6, h7, h8] at hK ⊢
    clear h0 h1 h2 h3 h4 h5 h6 h7 h8
    refine ite_yes (by rfl) ?_
    go_simp
    exact hK _ _ _ rfl (Grew.refl _) rfl
  refine ⟨?_, ?_⟩
  · refine wordP_read 0 0 (by kernel_rfl) (by kernel_rfl) (by kernel_rfl) ?_
    intro y w2 p hlo hhi hW hD K hK
    simp only [depsP, List.getD_cons_zero, List.getD_cons_succ, IsP] at hD
    have h0 := hD.1
    have h1 := hD.2.1
    have h2 := hD.2.2.1
    have h3 := hD.2.2.2.1
    have h4 := hD.2.2.2.2.1
    have h5 := hD.2.2.2.2.2.1
    have h6 := hD.2.2.2.2.2.2.1
    have h7 := hD.2.2.2.2.2.2.2.1
    have h8 := hD.2.2.2.2.2.2.2.2.1
    have h9 := hD.2.2.2.2.2.2.2.2.2.1
    have h10 := hD.2.2.2.2.2.2.2.2.2.2.1
    clear hD
    generalize hAA : fillL y _ _ = AA at hK ⊢
    simp only [fillL, Act.put, List.setIfInBounds_toArray, List.set_cons_zero, List.set_cons_succ, List.getD_cons_zero, List.getD_cons_succ, IsP] at hAA
    subst hAA
    simp only [List.getD_cons_zero, List.getD_cons_succ, IsP] at hK
    simp only [h0, h1, h2, h3, h4, h5, h6, h7, h8, h9, h10] at hK ⊢
    clear h0 h1 h2 h3 h4 h5 h6 h7 h8 h9 h10
    refine ite_yes (by rfl) ?_
    go_simp
    exact hK _ _ _ rfl (Grew.refl _) rfl
  trivial
theorem bstr_any {B : Nat} {q : Ptrs} {most flags : Int} {κ : Nat → Nat} {x : BS} {w : World} (k : ByteArray) (hk : k.size ≤ 1048576) (hg : x.Good) (h : Bd B q most flags κ x w) : Calls Tryz.prog 15 #[bptr q.p, .string k] w fun r w' => r = .returned (.tuple #[]) ∧ TurnX B q most flags κ (x.str most (onF flags 2) k) w w' := by
  have HH := Lib.hid (And.intro hk hg)
  have HE : Hid (Env B q most flags w κ [(w.heap.size + 1, Obj.cells #[.string k] 9 (0, 0)), (w.heap.size, Obj.cells #[bptr q.p] 23 (0, 0))] x ((w.alloc (.cells #[bptr q.p] 23)).alloc (.cells #[.string k] 9))) := by
    have hh := ((Env.start h).add (.cells #[bptr q.p] 23)).add (.cells #[.string k] 9)
    simp only [World.size_alloc, Nat.add_assoc, Nat.reduceAdd] at hh
    exact hh
  clear h hk hg
  go_enter Tryz.func15, Tryz.ntmps15
  go_wp2_with fail
  refine (HE.out.call' fun κ1 hb he => unless_any hb _ _ (x.str most (onF flags 2) k) (fun hx => by unfold BS.str; rw [if_neg hx]) (fun _ => enters_of Tryz.func54 (by kernel_rfl) rfl _ _) (fun hx => str1_any _ _ k HH.out.1 HH.out.2 hx he)).mono ?_
  rintro r w5 ⟨rfl, he⟩
  have HT := Lib.hid he
  clear he
  go_wp2
  go_end0
  exact ⟨rfl, HT.out.turn⟩
end Go.Proofs.YtjnpcddbgfmpcaaGreat

/-
  The builder in memory: values made from lists of numbers and of truths (mapped).
-/
namespace Go.Proofs.YtjnpcddbgfmpcaaGreat
open Go Go.ChangeShapes Go.WideShapes Go.ChangeAt Go.RowKit Go.Joins Go.Deep
open Go.Proofs.YtjnpcddbgfmpcaaGreat.Ft (V3 vV okV ValsAt inlineB legalB packF codeF typedF allF)
set_option linter.unusedVariables false
set_option linter.unusedSimpArgs false
def CellsAt {α : Type} (f : α → Value) (w : World) (v : Value) (l : List α) : Prop :=
  ∃ a c, v = .slice a l.length c ∧ ∀ (i : Nat) (x : α), l[i]? = some x → ∃ b off, a = some ⟨b, off, none⟩ ∧ w.cell? ⟨b, off + i, none⟩ = some (f x)
theorem CellsAt.grew {α : Type} {f : α → Value} {w w' : World} {v : Value} {l : List α} (h : CellsAt f w v l) (hg : Grew w w') : CellsAt f w' v l := by
  obtain ⟨a, c, h1, h2⟩ := h
  refine ⟨a, c, h1, fun i x hx => ?_⟩
  obtain ⟨b, off, h3, h4⟩ := h2 i x hx
  exact ⟨b, off, h3, hg.cell h4⟩
set_option maxRecDepth 100000 in
theorem mapI_any (l : List Int) (lv : Value) (w : World) (hp : CellsAt (fun x => .int .i64 x) w lv l) (hb : ∀ x ∈ l, -9223372036854775808 ≤ x ∧ x ≤ 9223372036854775807) (hl : l.length ≤ 1048576) : Calls Tryz.prog 96 #[.func (.func 78) #[] #[], lv] w fun r w' => ∃ v', r = .returned v' ∧ OwnVals w' w.heap.size v' (l.map numV) ∧ Grew w w' := by
  obtain ⟨ad, c, rfl, hcell⟩ := hp
  have HC := Lib.hid hcell
  have HB := Lib.hid hb
  have HL := Lib.hid hl
  clear hcell hb
  have hll : l.length ≤ 9223372036854775807 := by omega
  go_enter Tryz.func96, Tryz.ntmps96
  go_wp2_with fail
  go_loopw [4, 9] (fun v i wr => ∃ k : Nat, k ≤ l.length ∧ i = .int .i64 k ∧ Hid (OwnVals wr w.heap.size v ((l.take k).map numV) ∧ Grew w wr)) (fun _ i _ => l.length - (intOf i).toNat)
  case atStart => exact ⟨0, Nat.zero_le _, rfl, by
    show _ ∧ _
    exact ⟨World.ownsRow_nil _ _ _ _, Grew.refl _⟩⟩
  case round =>
    obtain ⟨k, hk, rfl, HW⟩ := hrel
    by_cases hlt : k < l.length
    · obtain ⟨x, hx⟩ : ∃ x, l[k]? = some x := ⟨_, List.getElem?_eq_getElem hlt⟩
      have HSN : Hid ((l.take (k + 1)).map numV = (l.take k).map numV ++ [numV x]) := by show _ = _; rw [List.take_add_one, hx]; simp
      have HX := Lib.hid (HB.out x (List.mem_of_getElem? hx))
      obtain ⟨b, off, rfl, c0⟩ := HC.out k x hx
      clear hx
      have d0 := HW.out.2.cell c0
      clear c0
      go_wp2_with fail
      refine (bnum_any x wr HX.out.1 HX.out.2).mono ?_
      rintro r w2 ⟨rfl, hg⟩
      have HO := Lib.hid (show OwnVals w2 w.heap.size u4 ((l.take k).map numV) from own_grew HW.out.1 hg)
      have HG := Lib.hid (HW.out.2.trans hg)
      obtain ⟨va, vc, rfl, hvc⟩ := own_form HO.out
      have HLN : Hid (((l.take k).map numV).length < l.length) := by show _ < _; rw [List.length_map, List.length_take]; omega
      generalize (l.take k).map numV = L at *
      generalize numV x = X at *
      obtain ⟨X0, X1, X2⟩ := X
      clear hg HW
      have HO2 : Hid (∀ o, OwnVals (w2.alloc o) w.heap.size (.slice va L.length vc) L) := fun o => own_grew HO.out ((Grew.refl _).alloc o)
      go_wp2_with (at_builtin; refine wpList_appendV rfl _ _ rfl w.heap.size (.slice va L.length vc) L rfl (HO2.out _) _ [(X0, X1, X2)] rfl (vals_new _ _) (fun c h => by cases h) (by have := HLN.out; have := HL.out; simp; omega) (Nat.le_trans HG.out.size (by simp)) ?_; intro v' w3 hown hgr hqq; obtain ⟨va2, vc2, rfl, _⟩ := own_form hown; have HG3 := Lib.hid (And.intro hown (grew_own (HO2.out _) (HG.out.alloc _) hgr)); clear hown hgr hqq)
      go_roundw
      case rel =>
        refine ⟨k + 1, by omega, by go_num, ?_⟩
        show _ ∧ _
        rw [HSN.out]
        have hh := HG3.out
        rw [List.length_append] at hh
        exact hh
      case measure => simp [intOf]; omega
    · have ek : k = l.length := by omega
      subst ek
      have hw := HW.out
      have HE : Hid (OwnVals wr w.heap.size u4 (l.map numV) ∧ Grew w wr) := by
        show _ ∧ _
        rw [List.take_length] at hw
        exact hw
      clear hw HW
      go_wp2
      go_ret
      exact ⟨_, rfl, HE.out⟩
set_option maxRecDepth 100000 in
theorem mapU_any (l : List Int) (lv : Value) (w : World) (hp : CellsAt (fun x => .int .u64 x) w lv l) (hb : ∀ x ∈ l, 0 ≤ x ∧ x ≤ 18446744073709551615) (hl : l.length ≤ 1048576) : Calls Tryz.prog 97 #[.func (.func 79) #[] #[], lv] w fun r w' => ∃ v', r = .returned v' ∧ OwnVals w' w.heap.size v' (l.map unsV) ∧ Grew w w' := by
  obtain ⟨ad, c, rfl, hcell⟩ := hp
  have HC := Lib.hid hcell
  have HB := Lib.hid hb
  have HL := Lib.hid hl
  clear hcell hb
  have hll : l.length ≤ 9223372036854775807 := by omega
  go_enter Tryz.func97, Tryz.ntmps97
  go_wp2_with fail
  go_loopw [4, 9] (fun v i wr => ∃ k : Nat, k ≤ l.length ∧ i = .int .i64 k ∧ Hid (OwnVals wr w.heap.size v ((l.take k).map unsV) ∧ Grew w wr)) (fun _ i _ => l.length - (intOf i).toNat)
  case atStart => exact ⟨0, Nat.zero_le _, rfl, by
    show _ ∧ _
    exact ⟨World.ownsRow_nil _ _ _ _, Grew.refl _⟩⟩
  case round =>
    obtain ⟨k, hk, rfl, HW⟩ := hrel
    by_cases hlt : k < l.length
    · obtain ⟨x, hx⟩ : ∃ x, l[k]? = some x := ⟨_, List.getElem?_eq_getElem hlt⟩
      have HSN : Hid ((l.take (k + 1)).map unsV = (l.take k).map unsV ++ [unsV x]) := by show _ = _; rw [List.take_add_one, hx]; simp
      have HX := Lib.hid (HB.out x (List.mem_of_getElem? hx))
      obtain ⟨b, off, rfl, c0⟩ := HC.out k x hx
      clear hx
      have d0 := HW.out.2.cell c0
      clear c0
      go_wp2_with fail
      refine (buns_any x wr HX.out.1 HX.out.2).mono ?_
      rintro r w2 ⟨rfl, hg⟩
      have HO := Lib.hid (show OwnVals w2 w.heap.size u4 ((l.take k).map unsV) from own_grew HW.out.1 hg)
      have HG := Lib.hid (HW.out.2.trans hg)
      obtain ⟨va, vc, rfl, hvc⟩ := own_form HO.out
      have HLN : Hid (((l.take k).map unsV).length < l.length) := by show _ < _; rw [List.length_map, List.length_take]; omega
      generalize (l.take k).map unsV = L at *
      generalize unsV x = X at *
      obtain ⟨X0, X1, X2⟩ := X
      clear hg HW
      have HO2 : Hid (∀ o, OwnVals (w2.alloc o) w.heap.size (.slice va L.length vc) L) := fun o => own_grew HO.out ((Grew.refl _).alloc o)
      go_wp2_with (at_builtin; refine wpList_appendV rfl _ _ rfl w.heap.size (.slice va L.length vc) L rfl (HO2.out _) _ [(X0, X1, X2)] rfl (vals_new _ _) (fun c h => by cases h) (by have := HLN.out; have := HL.out; simp; omega) (Nat.le_trans HG.out.size (by simp)) ?_; intro v' w3 hown hgr hqq; obtain ⟨va2, vc2, rfl, _⟩ := own_form hown; have HG3 := Lib.hid (And.intro hown (grew_own (HO2.out _) (HG.out.alloc _) hgr)); clear hown hgr hqq)
      go_roundw
      case rel =>
        refine ⟨k + 1, by omega, by go_num, ?_⟩
        show _ ∧ _
        rw [HSN.out]
        have hh := HG3.out
        rw [List.length_append] at hh
        exact hh
      case measure => simp [intOf]; omega
    · have ek : k = l.length := by omega
      subst ek
      have hw := HW.out
      have HE : Hid (OwnVals wr w.heap.size u4 (l.map unsV) ∧ Grew w wr) := by
        show _ ∧ _
        rw [List.take_length] at hw
        exact hw
      clear hw HW
      go_wp2
      go_ret
      exact ⟨_, rfl, HE.out⟩
set_option maxRecDepth 100000 in
theorem mapB_any (l : List Bool) (lv : Value) (w : World) (hp : CellsAt (fun x => .bool x) w lv l) (hb : ∀ x ∈ l, True) (hl : l.length ≤ 1048576) : Calls Tryz.prog 98 #[.func (.func 80) #[] #[], lv] w fun r w' => ∃ v', r = .returned v' ∧ OwnVals w' w.heap.size v' (l.map truthV) ∧ Grew w w' := by
  obtain ⟨ad, c, rfl, hcell⟩ := hp
  have HC := Lib.hid hcell
  have HB := Lib.hid hb
  have HL := Lib.hid hl
  clear hcell hb
  have hll : l.length ≤ 9223372036854775807 := by omega
  go_enter Tryz.func98, Tryz.ntmps98
  go_wp2_with fail
  go_loopw [4, 9] (fun v i wr => ∃ k : Nat, k ≤ l.length ∧ i = .int .i64 k ∧ Hid (OwnVals wr w.heap.size v ((l.take k).map truthV) ∧ Grew w wr)) (fun _ i _ => l.length - (intOf i).toNat)
  case atStart => exact ⟨0, Nat.zero_le _, rfl, by
    show _ ∧ _
    exact ⟨World.ownsRow_nil _ _ _ _, Grew.refl _⟩⟩
  case round =>
    obtain ⟨k, hk, rfl, HW⟩ := hrel
    by_cases hlt : k < l.length
    · obtain ⟨x, hx⟩ : ∃ x, l[k]? = some x := ⟨_, List.getElem?_eq_getElem hlt⟩
      have HSN : Hid ((l.take (k + 1)).map truthV = (l.take k).map truthV ++ [truthV x]) := by show _ = _; rw [List.take_add_one, hx]; simp
      have HX := Lib.hid (HB.out x (List.mem_of_getElem? hx))
      obtain ⟨b, off, rfl, c0⟩ := HC.out k x hx
      clear hx
      have d0 := HW.out.2.cell c0
      clear c0
      go_wp2_with fail
      refine (btruth_any x wr).mono ?_
      rintro r w2 ⟨rfl, hg⟩
      have HO := Lib.hid (show OwnVals w2 w.heap.size u4 ((l.take k).map truthV) from own_grew HW.out.1 hg)
      have HG := Lib.hid (HW.out.2.trans hg)
      obtain ⟨va, vc, rfl, hvc⟩ := own_form HO.out
      have HLN : Hid (((l.take k).map truthV).length < l.length) := by show _ < _; rw [List.length_map, List.length_take]; omega
      generalize (l.take k).map truthV = L at *
      generalize truthV x = X at *
      obtain ⟨X0, X1, X2⟩ := X
      clear hg HW
      have HO2 : Hid (∀ o, OwnVals (w2.alloc o) w.heap.size (.slice va L.length vc) L) := fun o => own_grew HO.out ((Grew.refl _).alloc o)
      go_wp2_with (at_builtin; refine wpList_appendV rfl _ _ rfl w.heap.size (.slice va L.length vc) L rfl (HO2.out _) _ [(X0, X1, X2)] rfl (vals_new _ _) (fun c h => by cases h) (by have := HLN.out; have := HL.out; simp; omega) (Nat.le_trans HG.out.size (by simp)) ?_; intro v' w3 hown hgr hqq; obtain ⟨va2, vc2, rfl, _⟩ := own_form hown; have HG3 := Lib.hid (And.intro hown (grew_own (HO2.out _) (HG.out.alloc _) hgr)); clear hown hgr hqq)
      go_roundw
      case rel =>
        refine ⟨k + 1, by omega, by go_num, ?_⟩
        show _ ∧ _
        rw [HSN.out]
        have hh := HG3.out
        rw [List.length_append] at hh
        exact hh
      case measure => simp [intOf]; omega
    · have ek : k = l.length := by omega
      subst ek
      have hw := HW.out
      have HE : Hid (OwnVals wr w.heap.size u4 (l.map truthV) ∧ Grew w wr) := by
        show _ ∧ _
        rw [List.take_length] at hw
        exact hw
      clear hw HW
      go_wp2
      go_ret
      exact ⟨_, rfl, HE.out⟩
end Go.Proofs.YtjnpcddbgfmpcaaGreat

/-
  The builder in memory: vectors. Conditions: the builder lies in memory, the list's row is none of its blocks.
-/
namespace Go.Proofs.YtjnpcddbgfmpcaaGreat
open Go Go.ChangeShapes Go.WideShapes Go.ChangeAt Go.RowKit Go.Joins Go.Deep
open Go.Proofs.YtjnpcddbgfmpcaaGreat.Ft (V3 vV okV ValsAt inlineB legalB packF codeF typedF allF)
set_option linter.unusedVariables false
set_option linter.unusedSimpArgs false
def VForm (elem many : Int) (l : List V3) : Prop := (elem = -1 ∧ many = 0) ∨ (elem ≠ -1 ∧ many = 0 ∧ (typedF elem 0).2 = true) ∨ (elem ≠ -1 ∧ many = (l.length : Int) ∧ 0 < l.length ∧ (typedF elem (l.length : Int)).2 = true)
def Apart0 (κ : Nat → Nat) (w : World) (lv : Value) : Prop := ∀ ad n c, lv = .slice (some ad) n c → ad.block < w.heap.size ∧ κ ad.block = 0
theorem putF_le {most : Int} {T : V3 → Int} {len tagged : Bool} {kind e0 : Int} {l : List V3} {s : St} (h : (s.1.length : Int) ≤ most) : ((putF most T len tagged kind e0 l s).2.1.length : Int) ≤ most := by
  unfold putF
  dsimp only
  have h1 : ∀ x, ((alignS most x s).1.length : Int) ≤ most := fun x => alignS_le h
  have h2 : ∀ x, (((if len then numS most x l.length (alignS most x s) else alignS most x s)).1.length : Int) ≤ most := fun x => by
    split
    · exact numS_le (h1 x)
    · exact h1 x
  have h3 := fun x => elemsS_le (x := x) l (h2 x)
  have h4 : ∀ x, (((if tagged then tagsS most x l (elemsS most x l (if len then numS most x l.length (alignS most x s) else alignS most x s)) else elemsS most x l (if len then numS most x l.length (alignS most x s) else alignS most x s))).1.length : Int) ≤ most := fun x => by
    split
    · exact tagsS_le l (h3 x)
    · exact h3 x
  by_cases ha : eachL T e0 l ≠ 0
  · rw [if_pos ha]; exact h
  rw [if_neg ha]
  generalize allF l (0, 0, 0) s.1.length (if len = true then 1 else 0) = X
  by_cases hb : X = 0
  · rw [if_pos hb]; exact h
  rw [if_neg hb]
  have h5 := h4 X
  generalize (if tagged = true then tagsS most X l (elemsS most X l (if len = true then numS most X l.length (alignS most X s) else alignS most X s)) else elemsS most X l (if len = true then numS most X l.length (alignS most X s) else alignS most X s)) = s4 at h5 ⊢
  by_cases hc : s4.2 ≠ 0
  · rw [if_pos hc]; exact h5
  · rw [if_neg hc]; exact h5
theorem putF_okV {most : Int} {T : V3 → Int} {len tagged : Bool} {kind e0 : Int} {l : List V3} {s : St} (h : (s.1.length : Int) ≤ most) (hm : most ≤ 1048576) : okV (putF most T len tagged kind e0 l s).1.1 := by
  unfold putF
  dsimp only
  have h1 : ∀ x, ((alignS most x s).1.length : Int) ≤ most := fun x => alignS_le h
  have h2 : ∀ x, (((if len then numS most x l.length (alignS most x s) else alignS most x s)).1.length : Int) ≤ most := fun x => by
    split
    · exact numS_le (h1 x)
    · exact h1 x
  by_cases ha : eachL T e0 l ≠ 0
  · rw [if_pos ha]; exact ok0
  rw [if_neg ha]
  generalize allF l (0, 0, 0) s.1.length (if len = true then 1 else 0) = X
  by_cases hb : X = 0
  · rw [if_pos hb]; exact ok0
  rw [if_neg hb]
  have h5 := h2 X
  generalize (if tagged = true then tagsS most X l (elemsS most X l (if len = true then numS most X l.length (alignS most X s) else alignS most X s)) else elemsS most X l (if len = true then numS most X l.length (alignS most X s) else alignS most X s)) = s4
  by_cases hc : s4.2 ≠ 0
  · rw [if_pos hc]; exact ok0
  · rw [if_neg hc]
    refine ⟨Int.natCast_nonneg _, ?_⟩
    show (List.length _ : Int) ≤ _
    omega
theorem vputF_le {most elem many : Int} {l : List V3} {s : St} (h : (s.1.length : Int) ≤ most) : ((vputF most elem many l s).2.1.length : Int) ≤ most := by
  unfold vputF
  split
  · exact putF_le h
  · exact putF_le h
theorem vputF_okV {most elem many : Int} {l : List V3} {s : St} (h : (s.1.length : Int) ≤ most) (hm : most ≤ 1048576) : okV (vputF most elem many l s).1.1 := by
  unfold vputF
  split
  · exact putF_okV h hm
  · exact putF_okV h hm
section
variable {B : Nat} {q : Ptrs} {most flags : Int} {κ κ0 : Nat → Nat} {x y : BS} {w w' w0 : World} {Kp : List (Nat × Obj)}
theorem BufAt.own_one {w : World} {p : Nat} {o o' : Option Nat} {l l' : List UInt8} {m m' e e' : Int} (h : BufAt 0 w p o l m e) (k : BufAt 0 w p o' l' m' e') : o' = o := by
  obtain ⟨_, v, h1, _, h3, _⟩ := h
  obtain ⟨_, v', k1, _, k3, _⟩ := k
  rw [h1] at k1
  injection k1 with k1
  injection k1 with k1
  have : v = v' := Option.some.inj (by exact congrArg (fun a : Array Value => a[1]?) k1)
  subst this
  exact k3.symm.trans h3
theorem Bd.buf_callsA (h : Bd B q most flags κ x w) {f : Nat} {args : Array Value} {R : Ending → Prop} {s' : St} (hl : (s'.1.length : Int) ≤ most)
    (hc : ∀ o, BufAt 0 w q.b o x.s.1 most x.s.2 → (∀ k, Own2 q.b o k → κ k = 2) → Calls Tryz.prog f args w fun r w' => R r ∧ TurnB 0 w w' q.b o most s') :
    Calls Tryz.prog f args w fun r w' => R r ∧ ∀ κ1, Bd B q most flags κ1 x w → TurnX B q most flags κ1 { x with s := s' } w w' := by
  obtain ⟨h0, o, h1, h2⟩ := h.buf
  refine (hc o h1 (fun k hk => hk.elim (fun e => e ▸ h0) (fun e => h2 k e.symm))).mono fun r w' hr => ⟨hr.1, fun κ1 g => ?_⟩
  obtain ⟨g0, o1, g1, g2⟩ := g.buf
  obtain rfl := h1.own_one g1
  obtain ⟨S', k1, k2, k3⟩ := BufS.turn (S := fun k => κ1 k = 2) g0 g1 g2 hr.2
  exact g.buf_step hl k1 k2 k3
theorem vput_any {elem many : Int} {lv : Value} {l : List V3} (h : Bd B q most flags κ x w) (hF : VForm elem many l) (hv : ValsAt w lv l) (ha : Apart0 κ w lv) (hlen : l.length ≤ 1048576) (hok : ∀ v ∈ l, okV v) (hs : x.s.2 = 0) :
    Calls Tryz.prog 115 #[bptr q.b, .int .i64 elem, .int .i64 many, lv] w fun r w' => r = .returned (putV (vputF most elem many l x.s).1) ∧ ∀ κ1, Bd B q most flags κ1 x w → TurnX B q most flags κ1 { x with s := (vputF most elem many l x.s).2 } w w' := by
  refine h.buf_callsA (vputF_le h.ok.len) fun o ho hκ => ?_
  have hap : ∀ ad n c, lv = .slice (some ad) n c → ad.block < w.heap.size ∧ ¬ Own2 q.b o ad.block := fun ad n c e => ⟨(ha ad n c e).1, fun hk => by have h1 := hκ _ hk; have h2 := (ha ad n c e).2; omega⟩
  unfold vputF
  rcases hF with ⟨rfl, rfl⟩ | ⟨hne, rfl, ht⟩ | ⟨hne, rfl, hpos, ht⟩
  · rw [if_pos rfl]
    exact put_un x.s lv l ho (Nat.zero_le _) h.ok.len h.ok.m1 hv hlen hok hap hs
  · rw [if_neg hne]
    exact put_ty0 elem _ (Prod.ext rfl ht) hne x.s lv l ho (Nat.zero_le _) h.ok.len h.ok.m1 hv hlen hok hap hs
  · rw [if_neg hne, decide_eq_false (by omega)]
    exact put_fix elem _ x.s lv l (Prod.ext rfl ht) hpos ho (Nat.zero_le _) h.ok.len h.ok.m1 hv hlen hok hap hs
def AllE (B : Nat) (q : Ptrs) (most flags : Int) (w0 : World) (κ0 : Nat → Nat) (x y : BS) (w w' : World) : Prop := ∀ Kp, Env B q most flags w0 κ0 Kp x w → Env B q most flags w0 κ0 Kp y w'
theorem allE_of (h : ∀ κ1, Bd B q most flags κ1 x w → TurnX B q most flags κ1 y w w') : AllE B q most flags w0 κ0 x y w w' := by
  rintro Kp ⟨κ, h1, h2, h3⟩
  obtain ⟨κ1, k1, k2⟩ := h κ h1
  exact ⟨κ1, k1, h2.trans k2, fun z hz => ⟨k2.1.heap (h3 z hz).1 (fun e => e (h3 z hz).2), (k2.2 z.1 (Array.getElem?_eq_some_iff.1 (h3 z hz).1).1).trans (h3 z hz).2⟩⟩
theorem Env.vput {elem many : Int} {lv : Value} {l : List V3} (h : Env B q most flags w0 κ0 Kp x w) (hF : VForm elem many l) (hv : ValsAt w0 lv l) (ha : Apart0 κ0 w0 lv) (hlen : l.length ≤ 1048576) (hok : ∀ v ∈ l, okV v) (hs : x.s.2 = 0) :
    Calls Tryz.prog 115 #[bptr q.b, .int .i64 elem, .int .i64 many, lv] w fun r w' => r = .returned (putV (vputF most elem many l x.s).1) ∧ AllE B q most flags w0 κ0 x { x with s := (vputF most elem many l x.s).2 } w w' := by
  obtain ⟨κ, h1, h2, h3⟩ := h
  have hv2 : ValsAt w lv l := vals_moved hv h2.1 (fun ad n c e hk => hk (ha ad n c e).2)
  have ha2 : Apart0 κ w lv := fun ad n c e => ⟨Nat.lt_of_lt_of_le (ha ad n c e).1 h2.1.size, (h2.2 _ (ha ad n c e).1).trans (ha ad n c e).2⟩
  exact (vput_any h1 hF hv2 ha2 hlen hok hs).mono fun r w' hr => ⟨hr.1, allE_of hr.2⟩
def NewV (E0 E1 E2 : Nat → World → Prop) : Nat → Value → World → Prop
  | 0, v, w => ∃ n, v = .pointer (some ⟨n, 0, none⟩) ∧ E0 n w
  | 1, v, w => ∃ n, v = .pointer (some ⟨n, 0, none⟩) ∧ E1 n w
  | _ + 2, v, w => ∃ n, v = .pointer (some ⟨n, 0, none⟩) ∧ E2 n w
def NewT (j : Nat) (E0 E1 E2 : Nat → World → Prop) : Nat → (Nat → Value) → World → World → Prop
  | 0, _, w, w' => ∀ n, E0 n w → E1 n w'
  | 1, y, w, w' => ∀ n, y j = .pointer (some ⟨n, 0, none⟩) → E1 n w → E2 n w'
  | _ + 2, _, w, w' => ∀ n, E2 n w → E2 n w'
theorem NewV.st {j : Nat} {E0 E1 E2 : Nat → World → Prop} (g0 : ∀ n w w', Grew w w' → E0 n w → E0 n w') (g1 : ∀ n w w', Grew w w' → E1 n w → E1 n w') (g2 : ∀ n w w', Grew w w' → E2 n w → E2 n w') :
    (∀ p v w w', (fun (_ : Nat) w w' => Grew w w') p w w' → NewV E0 E1 E2 p v w → NewV E0 E1 E2 p v w') ∧ ∀ p v w w', (∃ y : Nat → Value, y j = v ∧ NewT j E0 E1 E2 p y w w') → NewV E0 E1 E2 p v w → NewV E0 E1 E2 (p + 1) v w' := by
  refine ⟨fun p v w w' hg h => ?_, fun p v w w' ⟨y, hy, hT⟩ h => ?_⟩
  · match p, h with
    | 0, ⟨n, e, h⟩ => exact ⟨n, e, g0 n _ _ hg h⟩
    | 1, ⟨n, e, h⟩ => exact ⟨n, e, g1 n _ _ hg h⟩
    | _ + 2, ⟨n, e, h⟩ => exact ⟨n, e, g2 n _ _ hg h⟩
  · match p, h, hT with
    | 0, ⟨n, e, h⟩, hT => exact ⟨n, e, hT n h⟩
    | 1, ⟨n, e, h⟩, hT => exact ⟨n, e, hT n (hy.trans e) h⟩
    | _ + 2, ⟨n, e, h⟩, hT => exact ⟨n, e, hT n h⟩
theorem Env.callT {f : Nat} {args : Array Value} {R : Ending → Prop} (h : Env B q most flags w0 κ0 Kp x w) (hc : ∀ κ, Bd B q most flags κ x w → Tn κ0 κ w0 w → Env B q most flags w κ Kp x w → Calls Tryz.prog f args w fun r w' => R r ∧ TurnX B q most flags κ y w w') :
    Calls Tryz.prog f args w fun r w' => R r ∧ Env B q most flags w0 κ0 Kp y w' := by
  obtain ⟨κ, h1, h2, h3⟩ := h
  refine (hc κ h1 h2 ⟨κ, h1, Tn.refl _ _, h3⟩).mono fun r w' hr => ⟨hr.1, ?_⟩
  obtain ⟨κ1, k1, k2⟩ := hr.2
  exact ⟨κ1, k1, h2.trans k2, fun z hz => ⟨k2.1.heap (h3 z hz).1 (fun e => e (h3 z hz).2), (k2.2 z.1 (Array.getElem?_eq_some_iff.1 (h3 z hz).1).1).trans (h3 z hz).2⟩⟩
theorem Apart0.tn {κ κ1 : Nat → Nat} {w w' : World} {lv : Value} (h : Apart0 κ w lv) (ht : Tn κ κ1 w w') : Apart0 κ1 w' lv := fun ad n c e => ⟨Nat.lt_of_lt_of_le (h ad n c e).1 ht.1.size, (ht.2 _ (h ad n c e).1).trans (h ad n c e).2⟩
theorem vals_tn {κ κ1 : Nat → Nat} {w w' : World} {lv : Value} {l : List V3} (hv : ValsAt w lv l) (h : Apart0 κ w lv) (ht : Tn κ κ1 w w') : ValsAt w' lv l := vals_moved hv ht.1 (fun ad n c e hk => hk (h ad n c e).2)
theorem set3 {w : World} {n : Nat} {t : TypeId} {a b c d e f : Value} (h : w.heap[n]? = some (.cells #[a, b, c] t (0, 0))) : (((w.setCell ⟨n, 0, none⟩ d).setCell ⟨n, 1, none⟩ e).setCell ⟨n, 2, none⟩ f).heap[n]? = some (.cells #[d, e, f] t (0, 0)) := by
  have h1 := heap_setCell_same w n 0 _ _ d h
  have h2 := heap_setCell_same _ n 1 _ _ e h1
  have h3 := heap_setCell_same _ n 2 _ _ f h2
  simpa using h3
theorem moved3 (w : World) (n : Nat) (d e f : Value) : Moved (fun k => k = n) w (((w.setCell ⟨n, 0, none⟩ d).setCell ⟨n, 1, none⟩ e).setCell ⟨n, 2, none⟩ f) :=
  Moved.setCell (p := ⟨n, 2, none⟩) (Moved.setCell (p := ⟨n, 1, none⟩) (Moved.setCell (p := ⟨n, 0, none⟩) (Moved.refl (fun k => k = n) _) (fun _ => rfl) _) (fun _ => rfl) _) (fun _ => rfl) _
def NewE (B : Nat) (q : Ptrs) (most flags : Int) (w0 : World) (κ0 : Nat → Nat) (Kp : List (Nat × Obj)) (o : Obj) (x : BS) (n : Nat) (w : World) : Prop := (w0.heap.size ≤ n ∧ ∀ z ∈ Kp, z.1 ≠ n) ∧ Env B q most flags w0 κ0 ((n, o) :: Kp) x w
theorem NewE.grew {o : Obj} : ∀ n w w', Grew w w' → NewE B q most flags w0 κ0 Kp o x n w → NewE B q most flags w0 κ0 Kp o x n w' := fun _ _ _ hg h => ⟨h.1, h.2.grew hg⟩
theorem Env.newE (h : Env B q most flags w0 κ0 Kp x w) (o : Obj) : NewE B q most flags w0 κ0 Kp o x w.heap.size (w.alloc o) :=
  ⟨⟨h.size, fun z hz e => by have := (Array.getElem?_eq_some_iff.1 (h.kp (n := z.1) (o := z.2) hz)).1; omega⟩, h.add o⟩
theorem NewE.all {o : Obj} (hA : AllE B q most flags w0 κ0 x y w w') : ∀ n, NewE B q most flags w0 κ0 Kp o x n w → NewE B q most flags w0 κ0 Kp o y n w' := fun _ h => ⟨h.1, hA _ h.2⟩
theorem NewE.env {o : Obj} {n : Nat} (h : NewE B q most flags w0 κ0 Kp o x n w) : Env B q most flags w0 κ0 Kp x w := by
  obtain ⟨_, κ, h1, h2, h3⟩ := h
  exact ⟨κ, h1, h2, fun z hz => h3 z (List.mem_cons_of_mem _ hz)⟩
theorem NewE.tell {o o' : Obj} {n : Nat} (h : NewE B q most flags w0 κ0 Kp o x n w) (hm : Moved (fun k => k = n) w w') (ho : w'.heap[n]? = some o') : NewE B q most flags w0 κ0 Kp o' x n w' := by
  obtain ⟨⟨hn, hk⟩, κ, h1, h2, h3⟩ := h
  have hz : κ n = 0 := (h3 _ List.mem_cons_self).2
  have hd : ∀ c, c ≠ 0 → ∀ k, κ k = c → ¬ k = n := fun c hc k hk e => hc (by rw [← hk, e]; exact hz)
  refine ⟨⟨hn, hk⟩, κ, ⟨fun k hk => ⟨(h1.lt k hk).1, Nat.lt_of_lt_of_le (h1.lt k hk).2 hm.size⟩, h1.ok, h1.self.kept hm (hd 1 (by decide)), h1.buf.kept hm (hd 2 (by decide)), h1.stk.kept hm (hd 3 (by decide)), h1.keys.kept hm (hd 4 (by decide)), h1.texts.kept hm (hd 5 (by decide)), h1.lists.kept hm (hd 6 (by decide)), h1.names.kept hm (hd 7 (by decide))⟩,
    ⟨h2.1.trans hm (fun j hj e => by omega), h2.2⟩, fun z hz' => ?_⟩
  rcases List.mem_cons.1 hz' with rfl | hz'
  · exact ⟨ho, hz⟩
  · exact ⟨hm.heap (h3 z (List.mem_cons_of_mem _ hz')).1 (fun e => hk z hz' e), (h3 z (List.mem_cons_of_mem _ hz')).2⟩
end
set_option maxRecDepth 100000 in
set_option maxHeartbeats 8000000 in
theorem vector1_any {B : Nat} {q : Ptrs} {most flags : Int} {κ : Nat → Nat} {x : BS} {w : World} (n1 n2 n3 n4 : Nat) (elem many : Int) (lv : Value) (l : List V3) (hF : VForm elem many l) (hv : ValsAt w lv l) (ha : Apart0 κ w lv) (hlen : l.length ≤ 1048576) (hok : ∀ v ∈ l, okV v) (hg : x.Good) (hx : x.e = 0) (he : Env B q most flags w κ [(n4, Obj.cells #[lv] 51 (0, 0)), (n3, Obj.cells #[.int .i64 many] 3 (0, 0)), (n2, Obj.cells #[.int .i64 elem] 3 (0, 0)), (n1, Obj.cells #[bptr q.p] 23 (0, 0))] x w) : Calls Tryz.prog 114 #[.pointer (some ⟨n1, 0, none⟩), .pointer (some ⟨n2, 0, none⟩), .pointer (some ⟨n3, 0, none⟩), .pointer (some ⟨n4, 0, none⟩)] w fun r w' => r = .returned (.tuple #[]) ∧ TurnX B q most flags κ (x.vector most elem many l) w w' := by
  have HE := Lib.hid he
  have HM4 : Hid ((n4, Obj.cells #[lv] 51 (0, 0)) ∈ ([(n4, Obj.cells #[lv] 51 (0, 0)), (n3, Obj.cells #[.int .i64 many] 3 (0, 0)), (n2, Obj.cells #[.int .i64 elem] 3 (0, 0)), (n1, Obj.cells #[bptr q.p] 23 (0, 0))] : List (Nat × Obj))) := List.mem_cons_self
  have HM3 : Hid ((n3, Obj.cells #[.int .i64 many] 3 (0, 0)) ∈ ([(n4, Obj.cells #[lv] 51 (0, 0)), (n3, Obj.cells #[.int .i64 many] 3 (0, 0)), (n2, Obj.cells #[.int .i64 elem] 3 (0, 0)), (n1, Obj.cells #[bptr q.p] 23 (0, 0))] : List (Nat × Obj))) := List.mem_cons_of_mem _ (List.mem_cons_self)
  have HM2 : Hid ((n2, Obj.cells #[.int .i64 elem] 3 (0, 0)) ∈ ([(n4, Obj.cells #[lv] 51 (0, 0)), (n3, Obj.cells #[.int .i64 many] 3 (0, 0)), (n2, Obj.cells #[.int .i64 elem] 3 (0, 0)), (n1, Obj.cells #[bptr q.p] 23 (0, 0))] : List (Nat × Obj))) := List.mem_cons_of_mem _ (List.mem_cons_of_mem _ (List.mem_cons_self))
  have HM1 : Hid ((n1, Obj.cells #[bptr q.p] 23 (0, 0)) ∈ ([(n4, Obj.cells #[lv] 51 (0, 0)), (n3, Obj.cells #[.int .i64 many] 3 (0, 0)), (n2, Obj.cells #[.int .i64 elem] 3 (0, 0)), (n1, Obj.cells #[bptr q.p] 23 (0, 0))] : List (Nat × Obj))) := List.mem_cons_of_mem _ (List.mem_cons_of_mem _ (List.mem_cons_of_mem _ (List.mem_cons_self)))
  have HPV : Hid (∀ Kp w2, Env B q most flags w κ Kp x w2 → Calls Tryz.prog 115 #[bptr q.b, .int .i64 elem, .int .i64 many, lv] w2 fun r w' => r = .returned (putV (vputF most elem many l x.s).1) ∧ AllE B q most flags w κ x { x with s := (vputF most elem many l x.s).2 } w2 w') := fun Kp w2 h => h.vput hF hv ha hlen hok (hg.s0 hx)
  have HVO : Hid (okV (vputF most elem many l x.s).1.1) := vputF_okV he.ok.len he.ok.m1
  have HY : Hid (x.vector most elem many l = (({ x with s := (vputF most elem many l x.s).2 } : BS).fail (vputF most elem many l x.s).1.2).push (vputF most elem many l x.s).1.1) := by show _ = _; unfold BS.vector; rw [if_pos hx]
  generalize vputF most elem many l x.s = PP at HPV HVO HY
  obtain ⟨⟨⟨ty, wd, n⟩, ee⟩, s1⟩ := PP
  clear he hx hg hv ha hF hok
  go_enter Tryz.func114, Tryz.ntmps114
  go_wp2_with fail
  refine wp_region_phases [8, 13] (EnvW B q most flags w κ [(n4, Obj.cells #[lv] 51 (0, 0)), (n3, Obj.cells #[.int .i64 many] 3 (0, 0)), (n2, Obj.cells #[.int .i64 elem] 3 (0, 0)), (n1, Obj.cells #[bptr q.p] 23 (0, 0))] [x] ({ x with s := s1 })) (fun _ w w' => Grew w w') (NewT 12 (NewE B q most flags w κ [(n4, Obj.cells #[lv] 51 (0, 0)), (n3, Obj.cells #[.int .i64 many] 3 (0, 0)), (n2, Obj.cells #[.int .i64 elem] 3 (0, 0)), (n1, Obj.cells #[bptr q.p] 23 (0, 0))] (.cells #[.int .i64 0, .int .i64 0, .int .u64 0] 92 (0, 0)) (x)) (NewE B q most flags w κ [(n4, Obj.cells #[lv] 51 (0, 0)), (n3, Obj.cells #[.int .i64 many] 3 (0, 0)), (n2, Obj.cells #[.int .i64 elem] 3 (0, 0)), (n1, Obj.cells #[bptr q.p] 23 (0, 0))] (.cells #[.int .i64 0, .int .i64 0, .int .u64 0] 92 (0, 0)) ({ x with s := s1 })) (NewE B q most flags w κ [(n4, Obj.cells #[lv] 51 (0, 0)), (n3, Obj.cells #[.int .i64 many] 3 (0, 0)), (n2, Obj.cells #[.int .i64 elem] 3 (0, 0)), (n1, Obj.cells #[bptr q.p] 23 (0, 0))] (.cells #[.int .i64 ty, .int .i64 wd, .int .u64 n] 92 (0, 0)) ({ x with s := s1 }))) [[], [0], [0, 1], [0, 1, 2], [0, 1, 2, 3], [], [], [], [0, 1, 2, 3, 4, 5, 6, 7], [0, 1, 2, 3, 4, 5, 6, 7, 8], [0, 1, 2, 3, 4, 5, 6, 7, 8, 9], [0, 1, 2, 3, 4, 5, 6, 7, 8, 9], [], [0, 1, 2, 3, 4, 5, 6, 7, 8, 9, 10, 12], [0, 1, 2, 3, 4, 5, 6, 7, 8, 9, 10, 11, 12, 13]] [[(12, 5), (13, 6), (14, 7), (4, 12)], [(7, 0), (12, 5), (13, 6), (14, 7), (4, 12)], [(7, 0), (8, 1), (12, 5), (13, 6), (14, 7), (4, 12)], [(7, 0), (8, 1), (9, 2), (12, 5), (13, 6), (14, 7), (4, 12)], [(7, 0), (8, 1), (9, 2), (10, 3), (12, 5), (13, 6), (14, 7), (4, 12)], [(7, 0), (8, 1), (9, 2), (10, 3), (11, 4), (13, 6), (14, 7), (4, 12)], [(7, 0), (8, 1), (9, 2), (10, 3), (11, 4), (12, 5), (14, 7), (4, 12)], [(7, 0), (8, 1), (9, 2), (10, 3), (11, 4), (12, 5), (13, 6), (4, 12)], [(7, 0), (8, 1), (9, 2), (10, 3), (11, 4), (12, 5), (13, 6), (14, 7), (4, 12)], [(7, 0), (8, 1), (9, 2), (10, 3), (11, 4), (12, 5), (13, 6), (14, 7), (15, 8), (4, 12)], [(7, 0), (8, 1), (9, 2), (10, 3), (11, 4), (12, 5), (13, 6), (14, 7), (15, 8), (6, 9), (17, 11), (4, 12)], [(7, 0), (8, 1), (9, 2), (10, 3), (11, 4), (12, 5), (13, 6), (14, 7), (15, 8), (6, 9), (16, 10), (4, 12)], [(7, 0), (8, 1), (9, 2), (10, 3), (11, 4), (12, 5), (13, 6), (14, 7), (15, 8), (6, 9), (16, 10), (17, 11)], [(7, 0), (8, 1), (9, 2), (10, 3), (11, 4), (12, 5), (13, 6), (14, 7), (15, 8), (6, 9), (16, 10), (17, 11), (4, 12)], [(7, 0), (8, 1), (9, 2), (10, 3), (11, 4), (12, 5), (13, 6), (14, 7), (15, 8), (6, 9), (16, 10), (17, 11), (4, 12)]] [(7, 0), (8, 1), (9, 2), (10, 3), (11, 4), (12, 5), (13, 6), (14, 7), (15, 8), (6, 9), (16, 10), (17, 11), (4, 12), (5, 14)]
    [IsP (bptr q.p), IsP (bptr q.p), IsP (bptr q.p), IsP (bptr q.p), IsP (bptr q.b), IsP (.int .i64 elem), IsP (.int .i64 many), IsP (lv), IsP (.tuple #[.agg #[.int .i64 ty, .int .i64 wd, .int .u64 n], .int .i64 ee]), IsP (.tuple #[.agg #[.int .i64 ty, .int .i64 wd, .int .u64 n], .int .i64 ee]), IsP (.agg #[.int .i64 ty, .int .i64 wd, .int .u64 n]), IsP (.int .i64 ee), NewV (NewE B q most flags w κ [(n4, Obj.cells #[lv] 51 (0, 0)), (n3, Obj.cells #[.int .i64 many] 3 (0, 0)), (n2, Obj.cells #[.int .i64 elem] 3 (0, 0)), (n1, Obj.cells #[bptr q.p] 23 (0, 0))] (.cells #[.int .i64 0, .int .i64 0, .int .u64 0] 92 (0, 0)) (x)) (NewE B q most flags w κ [(n4, Obj.cells #[lv] 51 (0, 0)), (n3, Obj.cells #[.int .i64 many] 3 (0, 0)), (n2, Obj.cells #[.int .i64 elem] 3 (0, 0)), (n1, Obj.cells #[bptr q.p] 23 (0, 0))] (.cells #[.int .i64 0, .int .i64 0, .int .u64 0] 92 (0, 0)) ({ x with s := s1 })) (NewE B q most flags w κ [(n4, Obj.cells #[lv] 51 (0, 0)), (n3, Obj.cells #[.int .i64 many] 3 (0, 0)), (n2, Obj.cells #[.int .i64 elem] 3 (0, 0)), (n1, Obj.cells #[bptr q.p] 23 (0, 0))] (.cells #[.int .i64 ty, .int .i64 wd, .int .u64 n] 92 (0, 0)) ({ x with s := s1 })), fun _ _ _ => True, IsP (.int .i64 ee)]
    (by kernel_rfl) (EnvW.grew) (HE.out.grew (Grew.refl _).drew) (by kernel_rfl) (by kernel_rfl) ⟨isP_st, isP_st, isP_st, isP_st, isP_st, isP_st, isP_st, isP_st, isP_st, isP_st, isP_st, isP_st, NewV.st NewE.grew NewE.grew NewE.grew, ⟨fun _ _ _ _ _ h => h, fun _ _ _ _ _ h => h⟩, isP_st, trivial⟩ rfl ?_ ?_
  · intro y w2 hW hF
    simp only [factsP, IsP, Nat.reduceAdd, List.length_cons, List.length_nil] at hF hW
    have h0 := hF.1
    have h1 := hF.2.1
    have h2 := hF.2.2.1
    have h3 := hF.2.2.2.1
    have h4 := hF.2.2.2.2.1
    have h5 := hF.2.2.2.2.2.1
    have h6 := hF.2.2.2.2.2.2.1
    have h7 := hF.2.2.2.2.2.2.2.1
    have h8 := hF.2.2.2.2.2.2.2.2.1
    have h9 := hF.2.2.2.2.2.2.2.2.2.1
    have h10 := hF.2.2.2.2.2.2.2.2.2.2.1
    have h11 := hF.2.2.2.2.2.2.2.2.2.2.2.1
    have h12 := hF.2.2.2.2.2.2.2.2.2.2.2.2.1
    have h14 := hF.2.2.2.2.2.2.2.2.2.2.2.2.2.2.1
    clear hF
    simp only [fillL, Act.put, List.setIfInBounds_toArray, List.set_cons_zero, List.set_cons_succ, List.getD_cons_zero, List.getD_cons_succ]
    simp only [h0, h1, h2, h3, h4, h5, h6, h7, h8, h9, h10, h11, h14]
    clear h0 h1 h2 h3 h4 h5 h6 h7 h8 h9 h10 h11 h14
    obtain ⟨nn, e12, hE⟩ := (show NewV _ _ _ 2 _ _ from h12)
    simp only [e12]
    have HE2 := Lib.hid hE.2
    clear h12 e12 hE hW
    have HM1b : Hid ((n1, Obj.cells #[bptr q.p] 23 (0, 0)) ∈ (((nn, Obj.cells #[.int .i64 ty, .int .i64 wd, .int .u64 n] 92 (0, 0)) :: [(n4, Obj.cells #[lv] 51 (0, 0)), (n3, Obj.cells #[.int .i64 many] 3 (0, 0)), (n2, Obj.cells #[.int .i64 elem] 3 (0, 0)), (n1, Obj.cells #[bptr q.p] 23 (0, 0))]) : List (Nat × Obj))) := List.mem_cons_of_mem _ HM1.out
    have cb := Env.cell HE2.out HM1b.out 0 _ rfl
    go_wp2_with fail
    refine (HE2.out.call fun κ1 hb hz => pfail_any ee hb).mono ?_
    rintro r w3 ⟨rfl, he⟩
    have HE3 := Lib.hid he
    clear he cb
    go_wp2_with fail
    refine wp_region_phases [4] (EnvW B q most flags w κ ((nn, Obj.cells #[.int .i64 ty, .int .i64 wd, .int .u64 n] 92 (0, 0)) :: [(n4, Obj.cells #[lv] 51 (0, 0)), (n3, Obj.cells #[.int .i64 many] 3 (0, 0)), (n2, Obj.cells #[.int .i64 elem] 3 (0, 0)), (n1, Obj.cells #[bptr q.p] 23 (0, 0))]) [(({ x with s := s1 } : BS).fail ee)] ((({ x with s := s1 } : BS).fail ee).push (ty, wd, n))) (fun _ w w' => Grew w w') ((fun p (_ : Nat → Value) => (fun _ _ _ => True) p)) [[], [0], [0, 1], [], [0, 1, 2, 3]] [[(26, 3)], [(23, 0), (26, 3)], [(23, 0), (24, 1), (26, 3)], [(23, 0), (24, 1), (25, 2)], [(23, 0), (24, 1), (25, 2), (26, 3)]] [(23, 0), (24, 1), (25, 2), (26, 3), (27, 4)]
      [IsP (bptr q.p), IsP (bptr q.p), IsP (bptr q.p), IsP (.agg #[.int .i64 ty, .int .i64 wd, .int .u64 n]), IsP (.tuple #[])]
      (by kernel_rfl) (EnvW.grew) (HE3.out.grew (Grew.refl _).drew) (by kernel_rfl) (by kernel_rfl) ⟨isP_st, isP_st, isP_st, isP_st, isP_st, trivial⟩ rfl ?_ ?_
    · intro y w2 hW hF
      simp only [factsP, IsP, Nat.reduceAdd, List.length_cons, List.length_nil] at hF hW
      have h0 := hF.1
      have h1 := hF.2.1
      have h2 := hF.2.2.1
      have h3 := hF.2.2.2.1
      have h4 := hF.2.2.2.2.1
      clear hF
      simp only [fillL, Act.put, List.setIfInBounds_toArray, List.set_cons_zero, List.set_cons_succ, List.getD_cons_zero, List.getD_cons_succ]
      simp only [h0, h1, h2, h3, h4]
      clear h0 h1 h2 h3 h4
      go_wp2
      go_end0
      exact ⟨rfl, by rw [HY.out]; exact Env.turn hW⟩
    refine ⟨?_, ?_⟩
    · refine wordP_read 0 0 (by kernel_rfl) (by kernel_rfl) (by kernel_rfl) ?_
      intro y w2 p hlo hhi hW hD K hK
      have dq := Env.cell hW HM1b.out 0 _ rfl
      clear hD
      generalize hAA : fillL y _ _ = AA at hK ⊢
      simp only [fillL, Act.put, List.setIfInBounds_toArray, List.set_cons_zero, List.set_cons_succ, List.getD_cons_zero, List.getD_cons_succ, IsP] at hAA
      subst hAA
      simp only [List.getD_cons_zero, List.getD_cons_succ, IsP] at hK
      refine ite_yes (by rfl) ?_
      go_simp
      exact hK _ _ _ rfl (Grew.refl _) rfl
    refine ⟨?_, ?_⟩
    · refine wordP_read 0 0 (by kernel_rfl) (by kernel_rfl) (by kernel_rfl) ?_
      intro y w2 p hlo hhi hW hD K hK
      simp only [depsP, List.getD_cons_zero, List.getD_cons_succ, IsP] at hD
      have h0 := hD.1
      clear hD
      generalize hAA : fillL y _ _ = AA at hK ⊢
      simp only [fillL, Act.put, List.setIfInBounds_toArray, List.set_cons_zero, List.set_cons_succ, List.getD_cons_zero, List.getD_cons_succ, IsP] at hAA
      subst hAA
      simp only [List.getD_cons_zero, List.getD_cons_succ, IsP] at hK
      simp only [h0] at hK ⊢
      clear h0
      refine ite_yes (by rfl) ?_
      go_simp
      exact hK _ _ _ rfl (Grew.refl _) rfl
    refine ⟨?_, ?_⟩
    · refine wordP_read 0 0 (by kernel_rfl) (by kernel_rfl) (by kernel_rfl) ?_
      intro y w2 p hlo hhi hW hD K hK
      simp only [depsP, List.getD_cons_zero, List.getD_cons_succ, IsP] at hD
      have h0 := hD.1
      have h1 := hD.2.1
      clear hD
      generalize hAA : fillL y _ _ = AA at hK ⊢
      simp only [fillL, Act.put, List.setIfInBounds_toArray, List.set_cons_zero, List.set_cons_succ, List.getD_cons_zero, List.getD_cons_succ, IsP] at hAA
      subst hAA
      simp only [List.getD_cons_zero, List.getD_cons_succ, IsP] at hK
      simp only [h0, h1] at hK ⊢
      clear h0 h1
      refine ite_yes (by rfl) ?_
      go_simp
      exact hK _ _ _ rfl (Grew.refl _) rfl
    refine ⟨?_, ?_⟩
    · refine wordP_read 0 0 (by kernel_rfl) (by kernel_rfl) (by kernel_rfl) ?_
      intro y w2 p hlo hhi hW hD K hK
      have dd0 := Env.cell hW List.mem_cons_self 0 _ rfl
      have dd1 := Env.cell hW List.mem_cons_self 1 _ rfl
      have dd2 := Env.cell hW List.mem_cons_self 2 _ rfl
      clear hD
      generalize hAA : fillL y _ _ = AA at hK ⊢
      simp only [fillL, Act.put, List.setIfInBounds_toArray, List.set_cons_zero, List.set_cons_succ, List.getD_cons_zero, List.getD_cons_succ, IsP] at hAA
      subst hAA
      simp only [List.getD_cons_zero, List.getD_cons_succ, IsP] at hK
      refine ite_yes (by rfl) ?_
      go_simp
      exact hK _ _ _ rfl (Grew.refl _) rfl
    refine ⟨?_, ?_⟩
    · refine wordP_write 0 rfl ?_
      intro y w2 hW hD K hK
      simp only [depsP, List.getD_cons_zero, List.getD_cons_succ, IsP] at hD
      have h0 := hD.1
      have h1 := hD.2.1
      have h2 := hD.2.2.1
      have h3 := hD.2.2.2.1
      clear hD
      generalize hAA : fillL y _ _ = AA at hK ⊢
      simp only [fillL, Act.put, List.setIfInBounds_toArray, List.set_cons_zero, List.set_cons_succ, List.getD_cons_zero, List.getD_cons_succ, IsP] at hAA
      subst hAA
      simp only [List.getD_cons_zero, List.getD_cons_succ, IsP] at hK
      simp only [h0, h1, h2, h3] at hK ⊢
      clear h0 h1 h2 h3
      refine ite_yes (by rfl) ?_
      go_simp
      refine (Env.call hW fun κ1 hb hz => ppush_any (ty, wd, n) HVO.out hb).mono ?_
      rintro r w3 ⟨rfl, he⟩
      exact hK _ _ _ rfl trivial he rfl
    trivial
  refine ⟨?_, ?_⟩
  · refine wordP_read 0 0 (by kernel_rfl) (by kernel_rfl) (by kernel_rfl) ?_
    intro y w2 p hlo hhi hW hD K hK
    have d10 := Env.cell hW HM1.out 0 _ rfl
    clear hD
    generalize hAA : fillL y _ _ = AA at hK ⊢
    simp only [fillL, Act.put, List.setIfInBounds_toArray, List.set_cons_zero, List.set_cons_succ, List.getD_cons_zero, List.getD_cons_succ, IsP] at hAA
    subst hAA
    simp only [List.getD_cons_zero, List.getD_cons_succ, IsP] at hK
    refine ite_yes (by rfl) ?_
    go_simp
    exact hK _ _ _ rfl (Grew.refl _) rfl
  refine ⟨?_, ?_⟩
  · refine wordP_read 0 0 (by kernel_rfl) (by kernel_rfl) (by kernel_rfl) ?_
    intro y w2 p hlo hhi hW hD K hK
    simp only [depsP, List.getD_cons_zero, List.getD_cons_succ, IsP] at hD
    have h0 := hD.1
    clear hD
    generalize hAA : fillL y _ _ = AA at hK ⊢
    simp only [fillL, Act.put, List.setIfInBounds_toArray, List.set_cons_zero, List.set_cons_succ, List.getD_cons_zero, List.getD_cons_succ, IsP] at hAA
    subst hAA
    simp only [List.getD_cons_zero, List.getD_cons_succ, IsP] at hK
    simp only [h0] at hK ⊢
    clear h0
    refine ite_yes (by rfl) ?_
    go_simp
    exact hK _ _ _ rfl (Grew.refl _) rfl
  refine ⟨?_, ?_⟩
  · refine wordP_read 0 0 (by kernel_rfl) (by kernel_rfl) (by kernel_rfl) ?_
    intro y w2 p hlo hhi hW hD K hK
    simp only [depsP, List.getD_cons_zero, List.getD_cons_succ, IsP] at hD
    have h0 := hD.1
    have h1 := hD.2.1
    clear hD
    generalize hAA : fillL y _ _ = AA at hK ⊢
    simp only [fillL, Act.put, List.setIfInBounds_toArray, List.set_cons_zero, List.set_cons_succ, List.getD_cons_zero, List.getD_cons_succ, IsP] at hAA
    subst hAA
    simp only [List.getD_cons_zero, List.getD_cons_succ, IsP] at hK
    simp only [h0, h1] at hK ⊢
    clear h0 h1
    refine ite_yes (by rfl) ?_
    go_simp
    exact hK _ _ _ rfl (Grew.refl _) rfl
  refine ⟨?_, ?_⟩
  · refine wordP_read 0 0 (by kernel_rfl) (by kernel_rfl) (by kernel_rfl) ?_
    intro y w2 p hlo hhi hW hD K hK
    simp only [depsP, List.getD_cons_zero, List.getD_cons_succ, IsP] at hD
    have h0 := hD.1
    have h1 := hD.2.1
    have h2 := hD.2.2.1
    clear hD
    generalize hAA : fillL y _ _ = AA at hK ⊢
    simp only [fillL, Act.put, List.setIfInBounds_toArray, List.set_cons_zero, List.set_cons_succ, List.getD_cons_zero, List.getD_cons_succ, IsP] at hAA
    subst hAA
    simp only [List.getD_cons_zero, List.getD_cons_succ, IsP] at hK
    simp only [h0, h1, h2] at hK ⊢
    clear h0 h1 h2
    refine ite_yes (by rfl) ?_
    go_simp
    exact hK _ _ _ rfl (Grew.refl _) rfl
  refine ⟨?_, ?_⟩
  · refine wordP_read 0 0 (by kernel_rfl) (by kernel_rfl) (by kernel_rfl) ?_
    intro y w2 p hlo hhi hW hD K hK
    have dd := Env.at0 hW
    simp only [depsP, List.getD_cons_zero, List.getD_cons_succ, IsP] at hD
    have h0 := hD.1
    have h1 := hD.2.1
    have h2 := hD.2.2.1
    have h3 := hD.2.2.2.1
    clear hD
    generalize hAA : fillL y _ _ = AA at hK ⊢
    simp only [fillL, Act.put, List.setIfInBounds_toArray, List.set_cons_zero, List.set_cons_succ, List.getD_cons_zero, List.getD_cons_succ, IsP] at hAA
    subst hAA
    simp only [List.getD_cons_zero, List.getD_cons_succ, IsP] at hK
    simp only [h0, h1, h2, h3] at hK ⊢
    clear h0 h1 h2 h3
    refine ite_yes (by rfl) ?_
    go_simp
    exact hK _ _ _ rfl (Grew.refl _) rfl
  refine ⟨?_, ?_⟩
  · refine wordP_read 0 0 (by kernel_rfl) (by kernel_rfl) (by kernel_rfl) ?_
    intro y w2 p hlo hhi hW hD K hK
    have d20 := Env.cell hW HM2.out 0 _ rfl
    clear hD
    generalize hAA : fillL y _ _ = AA at hK ⊢
    simp only [fillL, Act.put, List.setIfInBounds_toArray, List.set_cons_zero, List.set_cons_succ, List.getD_cons_zero, List.getD_cons_succ, IsP] at hAA
    subst hAA
    simp only [List.getD_cons_zero, List.getD_cons_succ, IsP] at hK
    refine ite_yes (by rfl) ?_
    go_simp
    exact hK _ _ _ rfl (Grew.refl _) rfl
  refine ⟨?_, ?_⟩
  · refine wordP_read 0 0 (by kernel_rfl) (by kernel_rfl) (by kernel_rfl) ?_
    intro y w2 p hlo hhi hW hD K hK
    have d30 := Env.cell hW HM3.out 0 _ rfl
    clear hD
    generalize hAA : fillL y _ _ = AA at hK ⊢
    simp only [fillL, Act.put, List.setIfInBounds_toArray, List.set_cons_zero, List.set_cons_succ, List.getD_cons_zero, List.getD_cons_succ, IsP] at hAA
    subst hAA
    simp only [List.getD_cons_zero, List.getD_cons_succ, IsP] at hK
    refine ite_yes (by rfl) ?_
    go_simp
    exact hK _ _ _ rfl (Grew.refl _) rfl
  refine ⟨?_, ?_⟩
  · refine wordP_read 0 0 (by kernel_rfl) (by kernel_rfl) (by kernel_rfl) ?_
    intro y w2 p hlo hhi hW hD K hK
    have d40 := Env.cell hW HM4.out 0 _ rfl
    clear hD
    generalize hAA : fillL y _ _ = AA at hK ⊢
    simp only [fillL, Act.put, List.setIfInBounds_toArray, List.set_cons_zero, List.set_cons_succ, List.getD_cons_zero, List.getD_cons_succ, IsP] at hAA
    subst hAA
    simp only [List.getD_cons_zero, List.getD_cons_succ, IsP] at hK
    refine ite_yes (by rfl) ?_
    go_simp
    exact hK _ _ _ rfl (Grew.refl _) rfl
  refine ⟨?_, ?_⟩
  · refine wordP_write 0 rfl ?_
    intro y w2 hW hD K hK
    simp only [depsP, List.getD_cons_zero, List.getD_cons_succ, IsP] at hD
    have h0 := hD.1
    have h1 := hD.2.1
    have h2 := hD.2.2.1
    have h3 := hD.2.2.2.1
    have h4 := hD.2.2.2.2.1
    have h5 := hD.2.2.2.2.2.1
    have h6 := hD.2.2.2.2.2.2.1
    have h7 := hD.2.2.2.2.2.2.2.1
    clear hD
    generalize hAA : fillL y _ _ = AA at hK ⊢
    simp only [fillL, Act.put, List.setIfInBounds_toArray, List.set_cons_zero, List.set_cons_succ, List.getD_cons_zero, List.getD_cons_succ, IsP] at hAA
    subst hAA
    simp only [List.getD_cons_zero, List.getD_cons_succ, IsP] at hK
    simp only [h0, h1, h2, h3, h4, h5, h6, h7] at hK ⊢
    clear h0 h1 h2 h3 h4 h5 h6 h7
    refine ite_yes (by rfl) ?_
    go_simp
    refine (HPV.out _ w2 hW).mono ?_
    rintro r w3 ⟨rfl, hA⟩
    exact hK _ _ _ rfl (NewE.all hA) (hA _ hW) rfl
  refine ⟨?_, ?_⟩
  · refine wordP_read 1 1 (by kernel_rfl) (by kernel_rfl) (by kernel_rfl) ?_
    intro y w2 p hlo hhi hW hD K hK
    simp only [depsP, List.getD_cons_zero, List.getD_cons_succ, IsP] at hD
    have h0 := hD.1
    have h1 := hD.2.1
    have h2 := hD.2.2.1
    have h3 := hD.2.2.2.1
    have h4 := hD.2.2.2.2.1
    have h5 := hD.2.2.2.2.2.1
    have h6 := hD.2.2.2.2.2.2.1
    have h7 := hD.2.2.2.2.2.2.2.1
    have h8 := hD.2.2.2.2.2.2.2.2.1
    clear hD
    generalize hAA : fillL y _ _ = AA at hK ⊢
    simp only [fillL, Act.put, List.setIfInBounds_toArray, List.set_cons_zero, List.set_cons_succ, List.getD_cons_zero, List.getD_cons_succ, IsP] at hAA
    subst hAA
    simp only [List.getD_cons_zero, List.getD_cons_succ, IsP] at hK
    simp only [h0, h1, h2, h3, h4, h5, h6, h7, h8] at hK ⊢
    clear h0 h1 h2 h3 h4 h5 h6 h7 h8
    refine ite_yes (by rfl) ?_
    go_simp
    exact hK _ _ _ rfl (Grew.refl _) rfl
  refine ⟨?_, ?_⟩
  · refine wordP_read 1 1 (by kernel_rfl) (by kernel_rfl) (by kernel_rfl) ?_
    intro y w2 p hlo hhi hW hD K hK
    simp only [depsP, List.getD_cons_zero, List.getD_cons_succ, IsP] at hD
    have h0 := hD.1
    have h1 := hD.2.1
    have h2 := hD.2.2.1
    have h3 := hD.2.2.2.1
    have h4 := hD.2.2.2.2.1
    have h5 := hD.2.2.2.2.2.1
    have h6 := hD.2.2.2.2.2.2.1
    have h7 := hD.2.2.2.2.2.2.2.1
    have h8 := hD.2.2.2.2.2.2.2.2.1
    have h9 := hD.2.2.2.2.2.2.2.2.2.1
    clear hD
    generalize hAA : fillL y _ _ = AA at hK ⊢
    simp only [fillL, Act.put, List.setIfInBounds_toArray, List.set_cons_zero, List.set_cons_succ, List.getD_cons_zero, List.getD_cons_succ, IsP] at hAA
    subst hAA
    simp only [List.getD_cons_zero, List.getD_cons_succ, IsP] at hK
    simp only [h0, h1, h2, h3, h4, h5, h6, h7, h8, h9] at hK ⊢
    clear h0 h1 h2 h3 h4 h5 h6 h7 h8 h9
    refine ite_yes (by rfl) ?_
    go_simp
    exact hK _ _ _ rfl (Grew.refl _) rfl
  refine ⟨?_, ?_⟩
  · refine wordP_read 1 2 (by kernel_rfl) (by kernel_rfl) (by kernel_rfl) ?_
    intro y w2 p hlo hhi hW hD K hK
    simp only [depsP, List.getD_cons_zero, List.getD_cons_succ, IsP] at hD
    have h0 := hD.1
    have h1 := hD.2.1
    have h2 := hD.2.2.1
    have h3 := hD.2.2.2.1
    have h4 := hD.2.2.2.2.1
    have h5 := hD.2.2.2.2.2.1
    have h6 := hD.2.2.2.2.2.2.1
    have h7 := hD.2.2.2.2.2.2.2.1
    have h8 := hD.2.2.2.2.2.2.2.2.1
    have h9 := hD.2.2.2.2.2.2.2.2.2.1
    clear hD
    generalize hAA : fillL y _ _ = AA at hK ⊢
    simp only [fillL, Act.put, List.setIfInBounds_toArray, List.set_cons_zero, List.set_cons_succ, List.getD_cons_zero, List.getD_cons_succ, IsP] at hAA
    subst hAA
    simp only [List.getD_cons_zero, List.getD_cons_succ, IsP] at hK
    simp only [h0, h1, h2, h3, h4, h5, h6, h7, h8, h9] at hK ⊢
    clear h0 h1 h2 h3 h4 h5 h6 h7 h8 h9
    refine ite_yes (by rfl) ?_
    go_simp
    exact hK _ _ _ rfl (Grew.refl _) rfl
  refine ⟨?_, ?_⟩
  · refine wordP_read 0 1 (by kernel_rfl) (by kernel_rfl) (by kernel_rfl) ?_
    intro y w2 p hlo hhi hW hD K hK
    clear hD
    generalize hAA : fillL y _ _ = AA at hK ⊢
    simp only [fillL, Act.put, List.setIfInBounds_toArray, List.set_cons_zero, List.set_cons_succ, List.getD_cons_zero, List.getD_cons_succ, IsP] at hAA
    subst hAA
    simp only [List.getD_cons_zero, List.getD_cons_succ, IsP] at hK
    refine ite_yes (by rfl) ?_
    go_simp
    rcases (by omega : p = 0 ∨ p = 1) with rfl | rfl
    · exact hK _ _ _ rfl ((Grew.refl _).alloc _) (show NewV _ _ _ 0 _ _ from ⟨_, rfl, Env.newE hW _⟩)
    · exact hK _ _ _ rfl ((Grew.refl _).alloc _) (show NewV _ _ _ 1 _ _ from ⟨_, rfl, Env.newE hW _⟩)
  refine ⟨?_, ?_⟩
  · refine wordP_write 1 rfl ?_
    intro y w2 hW hD K hK
    simp only [depsP, List.getD_cons_zero, List.getD_cons_succ, IsP] at hD
    have h0 := hD.1
    have h1 := hD.2.1
    have h2 := hD.2.2.1
    have h3 := hD.2.2.2.1
    have h4 := hD.2.2.2.2.1
    have h5 := hD.2.2.2.2.2.1
    have h6 := hD.2.2.2.2.2.2.1
    have h7 := hD.2.2.2.2.2.2.2.1
    have h8 := hD.2.2.2.2.2.2.2.2.1
    have h9 := hD.2.2.2.2.2.2.2.2.2.1
    have h10 := hD.2.2.2.2.2.2.2.2.2.2.1
    have h12 := hD.2.2.2.2.2.2.2.2.2.2.2.1
    clear hD
    generalize hAA : fillL y _ _ = AA at hK ⊢
    simp only [fillL, Act.put, List.setIfInBounds_toArray, List.set_cons_zero, List.set_cons_succ, List.getD_cons_zero, List.getD_cons_succ, IsP] at hAA
    subst hAA
    simp only [List.getD_cons_zero, List.getD_cons_succ, IsP] at hK
    simp only [h0, h1, h2, h3, h4, h5, h6, h7, h8, h9, h10] at hK ⊢
    clear h0 h1 h2 h3 h4 h5 h6 h7 h8 h9 h10
    obtain ⟨nn, e12, hE⟩ := h12
    simp only [e12] at hK ⊢
    have hrow := hE.2.kp List.mem_cons_self
    have f0 := row_frozen hrow 0
    have f1 := row_frozen hrow 1
    have f2 := row_frozen hrow 2
    have c0 := row_cellT hrow 0 _ rfl
    have c1 := row_cellT hrow 1 _ rfl
    have c2 := row_cellT hrow 2 _ rfl
    clear hrow
    refine ite_yes (by rfl) ?_
    go_simp
    have hs := NewE.tell hE (moved3 w2 nn (.int .i64 ty) (.int .i64 wd) (.int .u64 n)) (set3 (hE.2.kp List.mem_cons_self))
    exact hK _ undef _ rfl (fun n' e' _ => by rw [e12] at e'; cases e'; exact hs) hs.env trivial
  refine ⟨?_, ?_⟩
  · refine wordP_read 2 2 (by kernel_rfl) (by kernel_rfl) (by kernel_rfl) ?_
    intro y w2 p hlo hhi hW hD K hK
    simp only [depsP, List.getD_cons_zero, List.getD_cons_succ, IsP] at hD
    have h0 := hD.1
    have h1 := hD.2.1
    have h2 := hD.2.2.1
    have h3 := hD.2.2.2.1
    have h4 := hD.2.2.2.2.1
    have h5 := hD.2.2.2.2.2.1
    have h6 := hD.2.2.2.2.2.2.1
    have h7 := hD.2.2.2.2.2.2.2.1
    have h8 := hD.2.2.2.2.2.2.2.2.1
    have h9 := hD.2.2.2.2.2.2.2.2.2.1
    have h10 := hD.2.2.2.2.2.2.2.2.2.2.1
    have h11 := hD.2.2.2.2.2.2.2.2.2.2.2.1
    have h12 := hD.2.2.2.2.2.2.2.2.2.2.2.2.1
    clear hD
    generalize hAA : fillL y _ _ = AA at hK ⊢
    simp only [fillL, Act.put, List.setIfInBounds_toArray, List.set_cons_zero, List.set_cons_succ, List.getD_cons_zero, List.getD_cons_succ, IsP] at hAA
    subst hAA
    simp only [List.getD_cons_zero, List.getD_cons_succ, IsP] at hK
    simp only [h0, h1, h2, h3, h4, h5, h6, h7, h8, h9, h10, h11] at hK ⊢
    clear h0 h1 h2 h3 h4 h5 h6 h7 h8 h9 h10 h11
    refine ite_yes (by rfl) ?_
    go_simp
    exact hK _ _ _ rfl (Grew.refl _) rfl
  trivial
theorem vector_any {B : Nat} {q : Ptrs} {most flags : Int} {κ : Nat → Nat} {x : BS} {w : World} (elem many : Int) (lv : Value) (l : List V3) (hF : VForm elem many l) (hv : ValsAt w lv l) (ha : Apart0 κ w lv) (hlen : l.length ≤ 1048576) (hok : ∀ v ∈ l, okV v) (hg : x.Good) (h : Bd B q most flags κ x w) : Calls Tryz.prog 63 #[bptr q.p, .int .i64 elem, .int .i64 many, lv] w fun r w' => r = .returned (.tuple #[]) ∧ TurnX B q most flags κ (x.vector most elem many l) w w' := by
  have hv0 := hv
  obtain ⟨la, lc, rfl, _⟩ := hv0
  have HF := Lib.hid hF
  have HVA := Lib.hid (And.intro hv ha)
  have HF2 := Lib.hid (And.intro hlen (And.intro hok hg))
  have HE : Hid (Env B q most flags w κ [(w.heap.size + 3, Obj.cells #[(.slice la l.length lc)] 51 (0, 0)), (w.heap.size + 2, Obj.cells #[.int .i64 many] 3 (0, 0)), (w.heap.size + 1, Obj.cells #[.int .i64 elem] 3 (0, 0)), (w.heap.size, Obj.cells #[bptr q.p] 23 (0, 0))] x ((((w.alloc (.cells #[bptr q.p] 23)).alloc (.cells #[.int .i64 elem] 3)).alloc (.cells #[.int .i64 many] 3)).alloc (.cells #[(.slice la l.length lc)] 51))) := by
    have hh := ((((Env.start h).add (.cells #[bptr q.p] 23)).add (.cells #[.int .i64 elem] 3)).add (.cells #[.int .i64 many] 3)).add (.cells #[(.slice la l.length lc)] 51)
    simp only [World.size_alloc, Nat.add_assoc, Nat.reduceAdd] at hh
    exact hh
  clear h hF hv ha hlen hok hg
  go_enter Tryz.func63, Tryz.ntmps63
  go_wp2_with fail
  refine (HE.out.callT fun κ1 hb ht he => unless_any hb _ _ (x.vector most elem many l) (fun hx => by unfold BS.vector; rw [if_neg hx]) (fun _ => enters_of Tryz.func114 (by kernel_rfl) rfl _ _) (fun hx => vector1_any _ _ _ _ _ _ _ _ HF.out (vals_tn HVA.out.1 HVA.out.2 ht) (HVA.out.2.tn ht) HF2.out.1 HF2.out.2.1 HF2.out.2.2 hx he)).mono ?_
  rintro r w5 ⟨rfl, he⟩
  have HT := Lib.hid he
  clear he
  go_wp2
  go_end0
  exact ⟨rfl, HT.out.turn⟩
end Go.Proofs.YtjnpcddbgfmpcaaGreat

/-
  The builder in memory: typed vectors of numbers and truths. Conditions: the builder lies in memory.
-/
namespace Go.Proofs.YtjnpcddbgfmpcaaGreat
open Go Go.ChangeShapes Go.WideShapes Go.ChangeAt Go.RowKit Go.Joins Go.Deep
open Go.Proofs.YtjnpcddbgfmpcaaGreat.Ft (V3 vV okV ValsAt inlineB legalB packF codeF typedF allF)
set_option linter.unusedVariables false
set_option linter.unusedSimpArgs false
theorem apart_own {B : Nat} {q : Ptrs} {most flags : Int} {κ : Nat → Nat} {x : BS} {w w' : World} {v : Value} {l : List V3} (h : Bd B q most flags κ x w) (ho : OwnVals w' w.heap.size v l) (hg : Grew w w') : Apart0 κ w' v := by
  rintro ad n c rfl
  rcases ho.2 with ⟨e, _⟩ | ⟨g, cap, cur, e, hge, hh, _⟩
  · cases e
  · cases e
    exact ⟨(Array.getElem?_eq_some_iff.1 hh).1, Decidable.byContradiction fun hk => by have h2 : g < w.heap.size := (h.lt _ hk).2; have h3 : w.heap.size ≤ g := hge; omega⟩
theorem bints_any {B : Nat} {q : Ptrs} {most flags : Int} {κ : Nat → Nat} {x : BS} {w : World} (l : List Int) (lv : Value) (hp : CellsAt (fun x => .int .i64 x) w lv l) (hb : ∀ x ∈ l, -9223372036854775808 ≤ x ∧ x ≤ 9223372036854775807) (hl : l.length ≤ 1048576) (hg : x.Good) (h : Bd B q most flags κ x w) : Calls Tryz.prog 40 #[bptr q.p, lv] w fun r w' => r = .returned (.tuple #[]) ∧ TurnX B q most flags κ (x.vector most 1 0 (l.map numV)) w w' := by
  have HB := Lib.hid h
  have HH := Lib.hid hg
  have HL := Lib.hid hl
  have HOK : Hid (∀ v ∈ l.map numV, okV v) := by
    intro v hv
    obtain ⟨x, hx, rfl⟩ := List.mem_map.1 hv
    exact numV_ok x (hb x hx).1 (hb x hx).2
  have HM := Lib.hid (mapI_any l lv w hp hb hl)
  have hp0 := hp
  obtain ⟨la, lc, rfl, _⟩ := hp0
  clear h hg hp hb hl
  go_enter Tryz.func40, Tryz.ntmps40
  go_wp2_with fail
  refine HM.out.mono ?_
  rintro r w1 ⟨v', rfl, ho, hgr⟩
  have HO := Lib.hid (And.intro ho hgr)
  clear ho hgr
  go_wp2_with fail
  refine (vector_any 1 0 v' (l.map numV) (.inr (.inl ⟨by decide, rfl, by kernel_rfl⟩)) HO.out.1.vals (apart_own HB.out HO.out.1 HO.out.2) (by rw [List.length_map]; exact HL.out) HOK.out HH.out (HB.out.grew HO.out.2)).mono ?_
  rintro r w2 ⟨rfl, ht⟩
  have HT := Lib.hid (ht.after HO.out.2)
  clear ht
  go_wp2
  go_end0
  exact ⟨rfl, HT.out⟩
theorem buints_any {B : Nat} {q : Ptrs} {most flags : Int} {κ : Nat → Nat} {x : BS} {w : World} (l : List Int) (lv : Value) (hp : CellsAt (fun x => .int .u64 x) w lv l) (hb : ∀ x ∈ l, 0 ≤ x ∧ x ≤ 18446744073709551615) (hl : l.length ≤ 1048576) (hg : x.Good) (h : Bd B q most flags κ x w) : Calls Tryz.prog 42 #[bptr q.p, lv] w fun r w' => r = .returned (.tuple #[]) ∧ TurnX B q most flags κ (x.vector most 2 0 (l.map unsV)) w w' := by
  have HB := Lib.hid h
  have HH := Lib.hid hg
  have HL := Lib.hid hl
  have HOK : Hid (∀ v ∈ l.map unsV, okV v) := by
    intro v hv
    obtain ⟨x, hx, rfl⟩ := List.mem_map.1 hv
    exact unsV_ok x (hb x hx).1 (hb x hx).2
  have HM := Lib.hid (mapU_any l lv w hp hb hl)
  have hp0 := hp
  obtain ⟨la, lc, rfl, _⟩ := hp0
  clear h hg hp hb hl
  go_enter Tryz.func42, Tryz.ntmps42
  go_wp2_with fail
  refine HM.out.mono ?_
  rintro r w1 ⟨v', rfl, ho, hgr⟩
  have HO := Lib.hid (And.intro ho hgr)
  clear ho hgr
  go_wp2_with fail
  refine (vector_any 2 0 v' (l.map unsV) (.inr (.inl ⟨by decide, rfl, by kernel_rfl⟩)) HO.out.1.vals (apart_own HB.out HO.out.1 HO.out.2) (by rw [List.length_map]; exact HL.out) HOK.out HH.out (HB.out.grew HO.out.2)).mono ?_
  rintro r w2 ⟨rfl, ht⟩
  have HT := Lib.hid (ht.after HO.out.2)
  clear ht
  go_wp2
  go_end0
  exact ⟨rfl, HT.out⟩
theorem bbools_any {B : Nat} {q : Ptrs} {most flags : Int} {κ : Nat → Nat} {x : BS} {w : World} (l : List Bool) (lv : Value) (hp : CellsAt (fun x => .bool x) w lv l) (hb : ∀ x ∈ l, True) (hl : l.length ≤ 1048576) (hg : x.Good) (h : Bd B q most flags κ x w) : Calls Tryz.prog 44 #[bptr q.p, lv] w fun r w' => r = .returned (.tuple #[]) ∧ TurnX B q most flags κ (x.vector most 26 0 (l.map truthV)) w w' := by
  have HB := Lib.hid h
  have HH := Lib.hid hg
  have HL := Lib.hid hl
  have HOK : Hid (∀ v ∈ l.map truthV, okV v) := by
    intro v hv
    obtain ⟨x, hx, rfl⟩ := List.mem_map.1 hv
    exact truthV_ok x
  have HM := Lib.hid (mapB_any l lv w hp hb hl)
  have hp0 := hp
  obtain ⟨la, lc, rfl, _⟩ := hp0
  clear h hg hp hb hl
  go_enter Tryz.func44, Tryz.ntmps44
  go_wp2_with fail
  refine HM.out.mono ?_
  rintro r w1 ⟨v', rfl, ho, hgr⟩
  have HO := Lib.hid (And.intro ho hgr)
  clear ho hgr
  go_wp2_with fail
  refine (vector_any 26 0 v' (l.map truthV) (.inr (.inl ⟨by decide, rfl, by kernel_rfl⟩)) HO.out.1.vals (apart_own HB.out HO.out.1 HO.out.2) (by rw [List.length_map]; exact HL.out) HOK.out HH.out (HB.out.grew HO.out.2)).mono ?_
  rintro r w2 ⟨rfl, ht⟩
  have HT := Lib.hid (ht.after HO.out.2)
  clear ht
  go_wp2
  go_end0
  exact ⟨rfl, HT.out⟩
theorem vector_no {B : Nat} {q : Ptrs} {most flags : Int} {κ : Nat → Nat} {x : BS} {w : World} (elem many : Int) (la : Option Addr) (n lc : Nat) (hx0 : x.e ≠ 0) (h : Bd B q most flags κ x w) : Calls Tryz.prog 63 #[bptr q.p, .int .i64 elem, .int .i64 many, .slice la n lc] w fun r w' => r = .returned (.tuple #[]) ∧ TurnX B q most flags κ (x) w w' := by
  have HX := Lib.hid hx0
  have HE : Hid (Env B q most flags w κ [(w.heap.size + 3, Obj.cells #[(.slice la n lc)] 51 (0, 0)), (w.heap.size + 2, Obj.cells #[.int .i64 many] 3 (0, 0)), (w.heap.size + 1, Obj.cells #[.int .i64 elem] 3 (0, 0)), (w.heap.size, Obj.cells #[bptr q.p] 23 (0, 0))] x ((((w.alloc (.cells #[bptr q.p] 23)).alloc (.cells #[.int .i64 elem] 3)).alloc (.cells #[.int .i64 many] 3)).alloc (.cells #[(.slice la n lc)] 51))) := by
    have hh := ((((Env.start h).add (.cells #[bptr q.p] 23)).add (.cells #[.int .i64 elem] 3)).add (.cells #[.int .i64 many] 3)).add (.cells #[(.slice la n lc)] 51)
    simp only [World.size_alloc, Nat.add_assoc, Nat.reduceAdd] at hh
    exact hh
  clear h hx0
  go_enter Tryz.func63, Tryz.ntmps63
  go_wp2_with fail
  refine (HE.out.call' fun κ1 hb he => unless_any hb _ _ (x) (fun hx => rfl) (fun _ => enters_of Tryz.func114 (by kernel_rfl) rfl _ _) (fun hx => absurd hx HX.out)).mono ?_
  rintro r w5 ⟨rfl, he⟩
  have HT := Lib.hid he
  clear he
  go_wp2
  go_end0
  exact ⟨rfl, HT.out.turn⟩
end Go.Proofs.YtjnpcddbgfmpcaaGreat

/-
  The builder in memory: fixed vectors. Conditions: the builder lies in memory.
-/
namespace Go.Proofs.YtjnpcddbgfmpcaaGreat
open Go Go.ChangeShapes Go.WideShapes Go.ChangeAt Go.RowKit Go.Joins Go.Deep
open Go.Proofs.YtjnpcddbgfmpcaaGreat.Ft (V3 vV okV ValsAt inlineB legalB packF codeF typedF allF)
set_option linter.unusedVariables false
set_option linter.unusedSimpArgs false
set_option maxRecDepth 100000 in
theorem fixed1_any {B : Nat} {q : Ptrs} {most flags : Int} {κ : Nat → Nat} {x : BS} {w : World} (n1 n2 n3 : Nat) (elem : Int) (la : Option Addr) (lc : Nat) (l : List V3) (hne : elem ≠ -1) (hT : ∀ n : Nat, 2 ≤ n → n ≤ 4 → (typedF elem (n : Int)).2 = true) (hv : ValsAt w (.slice la l.length lc) l) (ha : Apart0 κ w (.slice la l.length lc)) (hlen : l.length ≤ 1048576) (hok : ∀ v ∈ l, okV v) (hg : x.Good) (hx : x.e = 0) (he : Env B q most flags w κ [(n3, Obj.cells #[(.slice la l.length lc)] 51 (0, 0)), (n2, Obj.cells #[.int .i64 elem] 3 (0, 0)), (n1, Obj.cells #[bptr q.p] 23 (0, 0))] x w) : Calls Tryz.prog 162 #[.pointer (some ⟨n3, 0, none⟩), .pointer (some ⟨n1, 0, none⟩), .pointer (some ⟨n2, 0, none⟩)] w fun r w' => r = .returned (.tuple #[]) ∧ TurnX B q most flags κ (x.fixed most elem l) w w' := by
  have HE := Lib.hid he
  have HM3 : Hid ((n3, Obj.cells #[(.slice la l.length lc)] 51 (0, 0)) ∈ ([(n3, Obj.cells #[(.slice la l.length lc)] 51 (0, 0)), (n2, Obj.cells #[.int .i64 elem] 3 (0, 0)), (n1, Obj.cells #[bptr q.p] 23 (0, 0))] : List (Nat × Obj))) := List.mem_cons_self
  have HM2 : Hid ((n2, Obj.cells #[.int .i64 elem] 3 (0, 0)) ∈ ([(n3, Obj.cells #[(.slice la l.length lc)] 51 (0, 0)), (n2, Obj.cells #[.int .i64 elem] 3 (0, 0)), (n1, Obj.cells #[bptr q.p] 23 (0, 0))] : List (Nat × Obj))) := List.mem_cons_of_mem _ (List.mem_cons_self)
  have HM1 : Hid ((n1, Obj.cells #[bptr q.p] 23 (0, 0)) ∈ ([(n3, Obj.cells #[(.slice la l.length lc)] 51 (0, 0)), (n2, Obj.cells #[.int .i64 elem] 3 (0, 0)), (n1, Obj.cells #[bptr q.p] 23 (0, 0))] : List (Nat × Obj))) := List.mem_cons_of_mem _ (List.mem_cons_of_mem _ (List.mem_cons_self))
  have HVA := Lib.hid (And.intro hv ha)
  have HF2 := Lib.hid (And.intro hlen (And.intro hok hg))
  have cb := Env.cell he HM1.out 0 _ rfl
  have ce := Env.cell he HM2.out 0 _ rfl
  have cl := Env.cell he HM3.out 0 _ rfl
  have HX := Lib.hid hx
  have hll : l.length ≤ 9223372036854775807 := by omega
  by_cases hb2 : l.length < 2 ∨ 4 < l.length
  · have HY : Hid (x.fixed most elem l = x.fail 2) := by show _ = _; unfold BS.fixed; rw [if_pos hx, if_pos hb2]
    have HN : Hid ((x.fail 2).e ≠ 0) := by show _ ≠ _; unfold BS.fail failS; rw [if_pos hx]; show (2 : Int) ≠ 0; decide
    clear he hv ha hlen hok hg hT hx
    rcases hb2 with h2 | h4
    · have h2i : (l.length : Int) < 2 := by omega
      go_enter Tryz.func162, Tryz.ntmps162
      go_wp2_with fail
      refine (HE.out.call fun κ1 hb hz => pfail_any 2 hb).mono ?_
      rintro r w2 ⟨rfl, he⟩
      have HE2 := Lib.hid he
      clear he cb ce cl
      have cb := Env.cell HE2.out HM1.out 0 _ rfl
      have ce := Env.cell HE2.out HM2.out 0 _ rfl
      have cl := Env.cell HE2.out HM3.out 0 _ rfl
      go_wp2_with fail
      refine (HE2.out.call fun κ1 hb hz => vector_no _ _ _ _ _ HN.out hb).mono ?_
      rintro r w3 ⟨rfl, he⟩
      have HE3 := Lib.hid he
      clear he
      go_wp2
      go_end0
      exact ⟨rfl, by rw [HY.out]; exact HE3.out.turn⟩
    · have h2i : ¬ (l.length : Int) < 2 := by omega
      have h4i : (l.length : Int) > 4 := by omega
      go_enter Tryz.func162, Tryz.ntmps162
      go_wp2_with fail
      refine (HE.out.call fun κ1 hb hz => pfail_any 2 hb).mono ?_
      rintro r w2 ⟨rfl, he⟩
      have HE2 := Lib.hid he
      clear he cb ce cl
      have cb := Env.cell HE2.out HM1.out 0 _ rfl
      have ce := Env.cell HE2.out HM2.out 0 _ rfl
      have cl := Env.cell HE2.out HM3.out 0 _ rfl
      go_wp2_with fail
      refine (HE2.out.call fun κ1 hb hz => vector_no _ _ _ _ _ HN.out hb).mono ?_
      rintro r w3 ⟨rfl, he⟩
      have HE3 := Lib.hid he
      clear he
      go_wp2
      go_end0
      exact ⟨rfl, by rw [HY.out]; exact HE3.out.turn⟩
  · have HY : Hid (x.fixed most elem l = x.vector most elem l.length l) := by show _ = _; unfold BS.fixed; rw [if_pos hx, if_neg hb2]
    have HF : Hid (VForm elem (l.length : Int) l) := .inr (.inr ⟨hne, rfl, by omega, hT _ (by omega) (by omega)⟩)
    have h2i : ¬ (l.length : Int) < 2 := by omega
    have h4i : ¬ (l.length : Int) > 4 := by omega
    clear he hv ha hlen hok hg hT hx
    go_enter Tryz.func162, Tryz.ntmps162
    go_wp2_with fail
    refine (HE.out.callT fun κ1 hb ht he => vector_any _ _ _ _ HF.out (vals_tn HVA.out.1 HVA.out.2 ht) (HVA.out.2.tn ht) HF2.out.1 HF2.out.2.1 HF2.out.2.2 hb).mono ?_
    rintro r w3 ⟨rfl, he⟩
    have HE3 := Lib.hid he
    clear he
    go_wp2
    go_end0
    exact ⟨rfl, by rw [HY.out]; exact HE3.out.turn⟩
theorem fixed_any {B : Nat} {q : Ptrs} {most flags : Int} {κ : Nat → Nat} {x : BS} {w : World} (elem : Int) (la : Option Addr) (lc : Nat) (l : List V3) (hne : elem ≠ -1) (hT : ∀ n : Nat, 2 ≤ n → n ≤ 4 → (typedF elem (n : Int)).2 = true) (hv : ValsAt w (.slice la l.length lc) l) (ha : Apart0 κ w (.slice la l.length lc)) (hlen : l.length ≤ 1048576) (hok : ∀ v ∈ l, okV v) (hg : x.Good) (h : Bd B q most flags κ x w) : Calls Tryz.prog 101 #[bptr q.p, .int .i64 elem, (.slice la l.length lc)] w fun r w' => r = .returned (.tuple #[]) ∧ TurnX B q most flags κ (x.fixed most elem l) w w' := by
  have HF := Lib.hid (And.intro hne hT)
  have HVA := Lib.hid (And.intro hv ha)
  have HF2 := Lib.hid (And.intro hlen (And.intro hok hg))
  have HE : Hid (Env B q most flags w κ [(w.heap.size + 2, Obj.cells #[(.slice la l.length lc)] 51 (0, 0)), (w.heap.size + 1, Obj.cells #[.int .i64 elem] 3 (0, 0)), (w.heap.size, Obj.cells #[bptr q.p] 23 (0, 0))] x (((w.alloc (.cells #[bptr q.p] 23)).alloc (.cells #[.int .i64 elem] 3)).alloc (.cells #[(.slice la l.length lc)] 51))) := by
    have hh := (((Env.start h).add (.cells #[bptr q.p] 23)).add (.cells #[.int .i64 elem] 3)).add (.cells #[(.slice la l.length lc)] 51)
    simp only [World.size_alloc, Nat.add_assoc, Nat.reduceAdd] at hh
    exact hh
  clear h hne hT hv ha hlen hok hg
  go_enter Tryz.func101, Tryz.ntmps101
  go_wp2_with fail
  refine (HE.out.callT fun κ1 hb ht he => unless_any hb _ _ (x.fixed most elem l) (fun hx => by unfold BS.fixed; rw [if_neg hx]) (fun _ => enters_of Tryz.func162 (by kernel_rfl) rfl _ _) (fun hx => fixed1_any _ _ _ _ _ _ _ HF.out.1 HF.out.2 (vals_tn HVA.out.1 HVA.out.2 ht) (HVA.out.2.tn ht) HF2.out.1 HF2.out.2.1 HF2.out.2.2 hx he)).mono ?_
  rintro r w5 ⟨rfl, he⟩
  have HT := Lib.hid he
  clear he
  go_wp2
  go_end0
  exact ⟨rfl, HT.out.turn⟩
theorem fixT1 : ∀ n : Nat, 2 ≤ n → n ≤ 4 → (typedF 1 (n : Int)).2 = true := fun n h2 h4 => by
  obtain rfl | rfl | rfl : n = 2 ∨ n = 3 ∨ n = 4 := by omega
  · show (typedF 1 2).2 = true
    kernel_rfl
  · show (typedF 1 3).2 = true
    kernel_rfl
  · show (typedF 1 4).2 = true
    kernel_rfl
theorem fixT2 : ∀ n : Nat, 2 ≤ n → n ≤ 4 → (typedF 2 (n : Int)).2 = true := fun n h2 h4 => by
  obtain rfl | rfl | rfl : n = 2 ∨ n = 3 ∨ n = 4 := by omega
  · show (typedF 2 2).2 = true
    kernel_rfl
  · show (typedF 2 3).2 = true
    kernel_rfl
  · show (typedF 2 4).2 = true
    kernel_rfl
theorem bfixints_any {B : Nat} {q : Ptrs} {most flags : Int} {κ : Nat → Nat} {x : BS} {w : World} (l : List Int) (lv : Value) (hp : CellsAt (fun x => .int .i64 x) w lv l) (hb : ∀ x ∈ l, -9223372036854775808 ≤ x ∧ x ≤ 9223372036854775807) (hl : l.length ≤ 1048576) (hg : x.Good) (h : Bd B q most flags κ x w) : Calls Tryz.prog 48 #[bptr q.p, lv] w fun r w' => r = .returned (.tuple #[]) ∧ TurnX B q most flags κ (x.fixed most 1 (l.map numV)) w w' := by
  have HB := Lib.hid h
  have HH := Lib.hid hg
  have HL := Lib.hid hl
  have HOK : Hid (∀ v ∈ l.map numV, okV v) := by
    intro v hv
    obtain ⟨x, hx, rfl⟩ := List.mem_map.1 hv
    exact numV_ok x (hb x hx).1 (hb x hx).2
  have HM := Lib.hid (mapI_any l lv w hp hb hl)
  have hp0 := hp
  obtain ⟨la, lc, rfl, _⟩ := hp0
  clear h hg hp hb hl
  go_enter Tryz.func48, Tryz.ntmps48
  go_wp2_with fail
  refine HM.out.mono ?_
  rintro r w1 ⟨v', rfl, ho, hgr⟩
  have HO := Lib.hid (And.intro ho hgr)
  clear ho hgr
  go_wp2_with fail
  obtain ⟨va, vc, rfl, _⟩ := own_form HO.out.1
  refine (fixed_any 1 va vc (l.map numV) (by decide) fixT1 HO.out.1.vals (apart_own HB.out HO.out.1 HO.out.2) (by rw [List.length_map]; exact HL.out) HOK.out HH.out (HB.out.grew HO.out.2)).mono ?_
  rintro r w2 ⟨rfl, ht⟩
  have HT := Lib.hid (ht.after HO.out.2)
  clear ht
  go_wp2
  go_end0
  exact ⟨rfl, HT.out⟩
theorem bfixuints_any {B : Nat} {q : Ptrs} {most flags : Int} {κ : Nat → Nat} {x : BS} {w : World} (l : List Int) (lv : Value) (hp : CellsAt (fun x => .int .u64 x) w lv l) (hb : ∀ x ∈ l, 0 ≤ x ∧ x ≤ 18446744073709551615) (hl : l.length ≤ 1048576) (hg : x.Good) (h : Bd B q most flags κ x w) : Calls Tryz.prog 49 #[bptr q.p, lv] w fun r w' => r = .returned (.tuple #[]) ∧ TurnX B q most flags κ (x.fixed most 2 (l.map unsV)) w w' := by
  have HB := Lib.hid h
  have HH := Lib.hid hg
  have HL := Lib.hid hl
  have HOK : Hid (∀ v ∈ l.map unsV, okV v) := by
    intro v hv
    obtain ⟨x, hx, rfl⟩ := List.mem_map.1 hv
    exact unsV_ok x (hb x hx).1 (hb x hx).2
  have HM := Lib.hid (mapU_any l lv w hp hb hl)
  have hp0 := hp
  obtain ⟨la, lc, rfl, _⟩ := hp0
  clear h hg hp hb hl
  go_enter Tryz.func49, Tryz.ntmps49
  go_wp2_with fail
  refine HM.out.mono ?_
  rintro r w1 ⟨v', rfl, ho, hgr⟩
  have HO := Lib.hid (And.intro ho hgr)
  clear ho hgr
  go_wp2_with fail
  obtain ⟨va, vc, rfl, _⟩ := own_form HO.out.1
  refine (fixed_any 2 va vc (l.map unsV) (by decide) fixT2 HO.out.1.vals (apart_own HB.out HO.out.1 HO.out.2) (by rw [List.length_map]; exact HL.out) HOK.out HH.out (HB.out.grew HO.out.2)).mono ?_
  rintro r w2 ⟨rfl, ht⟩
  have HT := Lib.hid (ht.after HO.out.2)
  clear ht
  go_wp2
  go_end0
  exact ⟨rfl, HT.out⟩
end Go.Proofs.YtjnpcddbgfmpcaaGreat

/-
  The builder in memory: from, EndVec. Conditions: the builder lies in memory.
-/
namespace Go.Proofs.YtjnpcddbgfmpcaaGreat
open Go Go.ChangeShapes Go.WideShapes Go.ChangeAt Go.RowKit Go.Joins Go.Deep
open Go.Proofs.YtjnpcddbgfmpcaaGreat.Ft (V3 vV okV ValsAt inlineB legalB packF codeF typedF allF)
set_option linter.unusedVariables false
set_option linter.unusedSimpArgs false
theorem bfrom_any {B : Nat} {q : Ptrs} {most flags : Int} {κ : Nat → Nat} {x : BS} {w : World} (start : Int) (h : Bd B q most flags κ x w) : Calls Tryz.prog 61 #[bptr q.p, .int .i64 start] w fun r w' => (InR start x.stk.length ∧ ∃ v', r = .returned v' ∧ OwnVals w' w.heap.size v' (x.stk.drop start.toNat) ∧ Grew w w') ∨ (¬ InR start x.stk.length ∧ r = .returned (.slice none 0 0) ∧ TurnX B q most flags κ (x.fail 2) w w') := by
  have HB := Lib.hid h
  have c1 := h.at1
  clear h
  go_enter Tryz.func61, Tryz.ntmps61
  go_wp2_with fail
  refine (sFrom_any start HB.out.stk HB.out.ok.stk).mono ?_
  rintro r w1 (⟨hin, v', rfl, ho, hg⟩ | ⟨hin, rfl, hw⟩)
  · obtain ⟨L, hL⟩ : ∃ L, x.stk.drop start.toNat = L := ⟨_, rfl⟩
    rw [hL] at ho
    have HL := Lib.hid hL
    have HO := Lib.hid (And.intro ho hg)
    have HIN := Lib.hid hin
    obtain ⟨va, vc, rfl, _⟩ := own_form ho
    clear ho hg hin hL
    go_wp2
    go_ret
    exact .inl ⟨HIN.out, .slice va L.length vc, rfl, by rw [HL.out]; exact HO.out.1, HO.out.2⟩
  · obtain rfl : w = w1 := hw.symm
    have HIN := Lib.hid hin
    clear hin
    go_wp2_with fail
    refine (pfail_any 2 HB.out).mono ?_
    rintro r w2 ⟨rfl, ht⟩
    have HT := Lib.hid ht
    clear ht
    go_wp2
    go_ret
    exact .inr ⟨HIN.out, rfl, HT.out⟩
theorem TurnX.base {B : Nat} {q : Ptrs} {most flags : Int} {κ κ1 : Nat → Nat} {y : BS} {w w1 w2 : World} (ht : Tn κ κ1 w w) (hg : Grew w w1) (h : TurnX B q most flags κ1 y w1 w2) : TurnX B q most flags κ y w w2 := by
  obtain ⟨κ2, k1, k2⟩ := h
  exact ⟨κ2, k1, ht.trans ((Tn.of_grew hg).trans k2)⟩
theorem Env.open_ {B : Nat} {q : Ptrs} {most flags : Int} {κ : Nat → Nat} {x : BS} {w : World} {Kp : List (Nat × Obj)} (h : Env B q most flags w κ Kp x w) : ∃ κ1, Bd B q most flags κ1 x w ∧ Tn κ κ1 w w ∧ (∀ z ∈ Kp, κ1 z.1 = 0) ∧ ∀ w1, Grew w w1 → Env B q most flags w1 κ1 Kp x w1 := by
  obtain ⟨κ1, h1, h2, h3⟩ := h
  exact ⟨κ1, h1, h2, fun z hz => (h3 z hz).2, fun w1 hg => ⟨κ1, h1.grew hg, Tn.refl _ _, fun z hz => ⟨hg.heap (h3 z hz).1, (h3 z hz).2⟩⟩⟩
theorem bpop_any {B : Nat} {q : Ptrs} {most flags : Int} {κ : Nat → Nat} {x : BS} {w : World} (n : Nat) (h : Bd B q most flags κ x w) (hn : n ≤ x.stk.length) : Calls Tryz.prog 62 #[bptr q.s, .int .i64 n] w fun r w' => (∃ v' : Value, r = .returned (.tuple #[v', .int .i64 0])) ∧ TurnX B q most flags κ { x with stk := x.stk.take (x.stk.length - n) } w w' :=
  (spop_any n h.stk h.ok.stk hn).mono fun r w' ⟨v', e, _, ht⟩ => ⟨⟨v', e⟩, h.stk_step (by rw [List.length_take]; have := h.ok.stk; omega) (fun v hv => h.ok.okS v (List.mem_of_mem_take hv)) ht⟩
set_option maxRecDepth 100000 in
theorem endvec1_any {B : Nat} {q : Ptrs} {most flags : Int} {κ : Nat → Nat} {x : BS} {w : World} (n1 n2 : Nat) (start : Int) (hg : x.Good) (hx : x.e = 0) (he : Env B q most flags w κ [(n2, Obj.cells #[.int .i64 start] 3 (0, 0)), (n1, Obj.cells #[bptr q.p] 23 (0, 0))] x w) : Calls Tryz.prog 60 #[.pointer (some ⟨n1, 0, none⟩), .pointer (some ⟨n2, 0, none⟩)] w fun r w' => r = .returned (.tuple #[]) ∧ TurnX B q most flags κ (x.endVec most start) w w' := by
  have HM2 : Hid ((n2, Obj.cells #[.int .i64 start] 3 (0, 0)) ∈ ([(n2, Obj.cells #[.int .i64 start] 3 (0, 0)), (n1, Obj.cells #[bptr q.p] 23 (0, 0))] : List (Nat × Obj))) := List.mem_cons_self
  have HM1 : Hid ((n1, Obj.cells #[bptr q.p] 23 (0, 0)) ∈ ([(n2, Obj.cells #[.int .i64 start] 3 (0, 0)), (n1, Obj.cells #[bptr q.p] 23 (0, 0))] : List (Nat × Obj))) := List.mem_cons_of_mem _ (List.mem_cons_self)
  have cb := Env.cell he HM1.out 0 _ rfl
  have cs := Env.cell he HM2.out 0 _ rfl
  obtain ⟨κ1, hb, ht, hz, hall⟩ := he.open_
  have HB := Lib.hid hb
  have HTN := Lib.hid ht
  have HALL := Lib.hid hall
  have HZ := Lib.hid hz
  have HE0 := Lib.hid he
  have HG := Lib.hid hg
  have HX := Lib.hid hx
  clear he hb ht hall hz hg hx
  go_enter Tryz.func60, Tryz.ntmps60
  go_wp2_with fail
  refine (bfrom_any start HB.out).mono ?_
  rintro r w1 (⟨hin, v', rfl, ho, hgr⟩ | ⟨hin, rfl, ht⟩)
  · have HGR := Lib.hid hgr
    have HO := Lib.hid ho
    have HIN := Lib.hid hin
    have HE1 := Lib.hid (HALL.out w1 hgr)
    have HY : Hid (x.endVec most start = ({ x with stk := x.stk.take start.toNat } : BS).vector most (-1) 0 (x.stk.drop start.toNat)) := by show _ = _; unfold BS.endVec; rw [if_pos HX.out, if_pos (show 0 ≤ start ∧ start ≤ (x.stk.length : Int) from hin)]
    have HG2 : Hid (BS.Good { x with stk := x.stk.take start.toNat }) := ⟨HG.out.s0, HG.out.nm, HG.out.ks, HG.out.ts, HG.out.ls, HG.out.vs, HG.out.ix, HG.out.nz⟩
    have HLE : Hid ((x.stk.drop start.toNat).length ≤ x.stk.length) := by show _ ≤ _; rw [List.length_drop]; omega
    have HTK : Hid (x.stk.take (x.stk.length - (x.stk.drop start.toNat).length) = x.stk.take start.toNat) := by show _ = _; have h1 := hin.1; have h2 := hin.2; rw [List.length_drop]; congr 1; omega
    have HOK : Hid (∀ v ∈ x.stk.drop start.toNat, okV v) := fun v hv => HB.out.ok.okS v (List.mem_of_mem_drop hv)
    have HSL : Hid ((x.stk.drop start.toNat).length ≤ 1048576) := by show _ ≤ _; have := HLE.out; have := HB.out.ok.stk; omega
    obtain ⟨va, vc, rfl, _⟩ := own_form ho
    generalize x.stk.drop start.toNat = L at *
    clear ho hin hgr cb cs
    have cb := Env.cell HE1.out HM1.out 0 _ rfl
    have cs := Env.cell HE1.out HM2.out 0 _ rfl
    have c1 := HE1.out.at1
    have c2 := HE1.out.at2
    rw [HX.out] at c2
    go_wp2_with fail
    refine (HE1.out.call fun κ2 hb hz => bpop_any L.length hb HLE.out).mono ?_
    rintro r w2 ⟨⟨v'', rfl⟩, he⟩
    rw [HTK.out] at he
    have HE2 := Lib.hid he
    clear he cb cs c1 c2
    have cb := Env.cell HE2.out HM1.out 0 _ rfl
    go_wp2_with fail
    refine (HE2.out.callT fun κ2 hb ht he => vector_any (-1) 0 (.slice va L.length vc) L (.inl ⟨rfl, rfl⟩) (vals_tn HO.out.vals (apart_own HB.out HO.out HGR.out) ht) ((apart_own HB.out HO.out HGR.out).tn ht) HSL.out HOK.out HG2.out hb).mono ?_
    rintro r w3 ⟨rfl, he⟩
    have HE3 := Lib.hid he
    clear he
    go_wp2
    go_end0
    exact ⟨rfl, by rw [HY.out]; exact (HE3.out.turn).base HTN.out HGR.out⟩
  · have HY : Hid (x.endVec most start = x.fail 2) := by show _ = _; unfold BS.endVec; rw [if_pos HX.out, if_neg (show ¬ (0 ≤ start ∧ start ≤ (x.stk.length : Int)) from hin)]
    have HN : Hid ((x.fail 2).e = 2) := by show _ = _; unfold BS.fail failS; rw [if_pos HX.out]
    have HNE : Hid ((x.fail 2).e ≠ 0) := by show _ ≠ _; rw [HN.out]; decide
    have HNE : Hid ((x.fail 2).e ≠ 0) := by show _ ≠ _; rw [HN.out]; decide
    have HE1 : Hid (Env B q most flags w κ [(n2, Obj.cells #[.int .i64 start] 3 (0, 0)), (n1, Obj.cells #[bptr q.p] 23 (0, 0))] (x.fail 2) w1) := by
      obtain ⟨κ2, k1, k2⟩ := ht
      have h0 := HALL.out w (Grew.refl w)
      exact ⟨κ2, k1, HTN.out.trans k2, fun z hz => ⟨k2.1.heap (h0.kp (n := z.1) (o := z.2) hz) (fun e => e (HZ.out z hz)), (k2.2 z.1 (Array.getElem?_eq_some_iff.1 (h0.kp (n := z.1) (o := z.2) hz)).1).trans (HZ.out z hz)⟩⟩
    clear ht hin cb cs
    have cb := Env.cell HE1.out HM1.out 0 _ rfl
    have c2 := HE1.out.at2
    rw [HN.out] at c2
    go_wp2_with fail
    refine (HE1.out.call fun κ2 hb hz => vector_no _ _ _ _ _ HNE.out hb).mono ?_
    rintro r w3 ⟨rfl, he⟩
    have HE3 := Lib.hid he
    clear he
    go_wp2
    go_end0
    exact ⟨rfl, by rw [HY.out]; exact HE3.out.turn⟩
theorem bendvec_any {B : Nat} {q : Ptrs} {most flags : Int} {κ : Nat → Nat} {x : BS} {w : World} (start : Int) (hg : x.Good) (h : Bd B q most flags κ x w) : Calls Tryz.prog 16 #[bptr q.p, .int .i64 start] w fun r w' => r = .returned (.tuple #[]) ∧ TurnX B q most flags κ (x.endVec most start) w w' := by
  have HH := Lib.hid hg
  have HE : Hid (Env B q most flags w κ [(w.heap.size + 1, Obj.cells #[.int .i64 start] 3 (0, 0)), (w.heap.size, Obj.cells #[bptr q.p] 23 (0, 0))] x ((w.alloc (.cells #[bptr q.p] 23)).alloc (.cells #[.int .i64 start] 3))) := by
    have hh := ((Env.start h).add (.cells #[bptr q.p] 23)).add (.cells #[.int .i64 start] 3)
    simp only [World.size_alloc, Nat.add_assoc, Nat.reduceAdd] at hh
    exact hh
  clear h hg
  go_enter Tryz.func16, Tryz.ntmps16
  go_wp2_with fail
  refine (HE.out.call' fun κ1 hb he => unless_any hb _ _ (x.endVec most start) (fun hx => by unfold BS.endVec; rw [if_neg hx]) (fun _ => enters_of Tryz.func60 (by kernel_rfl) rfl _ _) (fun hx => endvec1_any _ _ _ HH.out hx he)).mono ?_
  rintro r w5 ⟨rfl, he⟩
  have HT := Lib.hid he
  clear he
  go_wp2
  go_end0
  exact ⟨rfl, HT.out.turn⟩
end Go.Proofs.YtjnpcddbgfmpcaaGreat

/-
  The builder in memory: Keys. Conditions: the builder lies in memory; the list of strings is none of its blocks.
-/
namespace Go.Proofs.YtjnpcddbgfmpcaaGreat
open Go Go.ChangeShapes Go.WideShapes Go.ChangeAt Go.RowKit Go.Joins Go.Deep
open Go.Proofs.YtjnpcddbgfmpcaaGreat.Ft (V3 vV okV ValsAt inlineB legalB packF codeF typedF allF)
set_option linter.unusedVariables false
set_option linter.unusedSimpArgs false
theorem putAll_snoc (most : Int) (sh : Bool) : ∀ (l : List ByteArray) (k : ByteArray) (x : BS), x.putAll most sh (l ++ [k]) = ((x.putAll most sh l).1 ++ [((x.putAll most sh l).2.put most sh k).1], ((x.putAll most sh l).2.put most sh k).2)
  | [], k, x => rfl
  | a :: r, k, x => by
    show (_ :: ((x.put most sh a).2.putAll most sh (r ++ [k])).1, ((x.put most sh a).2.putAll most sh (r ++ [k])).2) = _
    rw [putAll_snoc most sh r k]
    rfl
theorem putAll_length (most : Int) (sh : Bool) : ∀ (l : List ByteArray) (x : BS), (x.putAll most sh l).1.length = l.length
  | [], _ => rfl
  | _ :: r, x => by show ((_ :: _) : List V3).length = _; rw [List.length_cons, putAll_length most sh r]; rfl
def EnvV (B : Nat) (q : Ptrs) (most flags : Int) (w0 : World) (κ0 : Nat → Nat) (x : BS) (v : Value) (L : List V3) (w : World) : Prop :=
  ∃ κ, Bd B q most flags κ x w ∧ Tn κ0 κ w0 w ∧ OwnVals w w0.heap.size v L ∧ ∀ g, v.ownBlock = some g → κ g = 0
section
variable {B : Nat} {q : Ptrs} {most flags : Int} {κ κ0 : Nat → Nat} {x y : BS} {w w0 w1 w2 w3 : World} {v v' : Value} {L : List V3}
theorem own_blk (h : OwnVals w B v L) {g : Nat} (hg : v.ownBlock = some g) : B ≤ g ∧ g < w.heap.size := by
  rcases h.2 with ⟨rfl, _⟩ | ⟨g', cap, cur, rfl, hge, hh, _⟩
  · cases hg
  · cases hg
    exact ⟨hge, (Array.getElem?_eq_some_iff.1 hh).1⟩
theorem EnvV.cell (h : EnvV B q most flags w0 κ0 x v L w) {b off : Nat} {u : Value} (hc : w0.cell? ⟨b, off, none⟩ = some u) (hb : κ0 b = 0) : w.cell? ⟨b, off, none⟩ = some u := by
  obtain ⟨κ1, h1, h2, _⟩ := h
  exact h2.1.cell hc (fun e => e hb)
theorem EnvV.put (h : EnvV B q most flags w0 κ0 x v L w) (k : ByteArray) (hk : k.size ≤ 1048576) (hg : x.Good) : Calls Tryz.prog 95 #[bptr q.p, .string k] w fun r w' => r = .returned (vV (x.put most (onF flags 1) k).1) ∧ EnvV B q most flags w0 κ0 (x.put most (onF flags 1) k).2 v L w' := by
  obtain ⟨κ1, h1, h2, h3, h4⟩ := h
  refine (bput_any k hk hg h1).mono fun r w' hr => ⟨hr.1, ?_⟩
  obtain ⟨κ2, k1, k2⟩ := hr.2
  exact ⟨κ2, k1, h2.trans k2, k2.1.owns h3 (fun g hgg hk => hk (h4 g hgg)), fun g hgg => (k2.2 g (own_blk h3 hgg).2).trans (h4 g hgg)⟩
theorem EnvV.app (h : EnvV B q most flags w0 κ0 x v L w) {o : Obj} {L' : List V3} (hown : OwnVals w3 w0.heap.size v' L') (hgr : (w.alloc o).grownBy w3 v.ownBlock) (hnx : Next (w.alloc o) v.ownBlock v'.ownBlock) : EnvV B q most flags w0 κ0 x v' L' w3 := by
  obtain ⟨κ1, h1, h2, h3, h4⟩ := h
  have hg := (Grew.refl w).alloc o
  have h1' := h1.grew hg
  have hm : Moved (fun k => some k = v.ownBlock) (w.alloc o) w3 := Moved.of_grown hgr
  have hd : ∀ c, c ≠ 0 → ∀ k, κ1 k = c → ¬ some k = v.ownBlock := fun c hc k hk e => hc (by rw [← hk]; exact h4 k e.symm)
  refine ⟨κ1, ⟨fun k hk => ⟨(h1'.lt k hk).1, Nat.lt_of_lt_of_le (h1'.lt k hk).2 hm.size⟩, h1'.ok, h1'.self.kept hm (hd 1 (by decide)), h1'.buf.kept hm (hd 2 (by decide)), h1'.stk.kept hm (hd 3 (by decide)), h1'.keys.kept hm (hd 4 (by decide)), h1'.texts.kept hm (hd 5 (by decide)), h1'.lists.kept hm (hd 6 (by decide)), h1'.names.kept hm (hd 7 (by decide))⟩,
    ⟨(h2.trans (Tn.of_grew hg)).1.trans hm (fun j hj e => by have := (own_blk h3 e.symm).1; omega), (h2.trans (Tn.of_grew (κ := κ1) hg)).2⟩, hown, fun g hgg => ?_⟩
  rcases hnx g hgg with e | e
  · exact h4 g e
  · exact Decidable.byContradiction fun hk => by have := (h1'.lt g hk).2; omega
end
set_option maxRecDepth 100000 in
theorem mapS_any {B : Nat} {q : Ptrs} {most flags : Int} {κ : Nat → Nat} {x : BS} {w : World} (l : List ByteArray) (lv : Value) (hp : CellsAt (fun x => .string x) w lv l) (ha : Apart0 κ w lv) (hk : ∀ k ∈ l, k.size ≤ 1048576) (hl : l.length ≤ 1048576) (hg : x.Good) (h : Bd B q most flags κ x w) : Calls Tryz.prog 100 #[.func (.func 95) #[bptr q.p] #[], lv] w fun r w' => ∃ v', r = .returned v' ∧ EnvV B q most flags w κ (x.putAll most (onF flags 1) l).2 v' (x.putAll most (onF flags 1) l).1 w' := by
  have HB := Lib.hid h
  have HA := Lib.hid ha
  obtain ⟨ad, c, rfl, hcell⟩ := hp
  have HC := Lib.hid hcell
  have HK := Lib.hid hk
  have HL := Lib.hid hl
  have HG := Lib.hid hg
  have hll : l.length ≤ 9223372036854775807 := by omega
  clear hcell hk hg h ha
  go_enter Tryz.func100, Tryz.ntmps100
  go_wp2_with fail
  go_loopw [4, 9] (fun v i wr => ∃ k : Nat, k ≤ l.length ∧ i = .int .i64 k ∧ Hid (EnvV B q most flags w κ (x.putAll most (onF flags 1) (l.take k)).2 v (x.putAll most (onF flags 1) (l.take k)).1 wr)) (fun _ i _ => l.length - (intOf i).toNat)
  case atStart => exact ⟨0, Nat.zero_le _, rfl, by
    show EnvV B q most flags w κ x _ [] _
    exact ⟨κ, HB.out, Tn.refl _ _, World.ownsRow_nil _ _ _ _, fun g e => by cases e⟩⟩
  case round =>
    obtain ⟨k, hk, rfl, HW⟩ := hrel
    by_cases hlt : k < l.length
    · obtain ⟨s, hx⟩ : ∃ s, l[k]? = some s := ⟨_, List.getElem?_eq_getElem hlt⟩
      have HSN := Lib.hid (putAll_snoc most (onF flags 1) (l.take k) s x)
      have HTK : Hid (l.take (k + 1) = l.take k ++ [s]) := by show _ = _; rw [List.take_add_one, hx]; rfl
      have HKS := Lib.hid (HK.out s (List.mem_of_getElem? hx))
      obtain ⟨b, off, rfl, c0⟩ := HC.out k s hx
      have d0 := HW.out.cell c0 (HA.out _ _ _ rfl).2
      clear hx c0
      have HGG : Hid ((x.putAll most (onF flags 1) (l.take k)).2.Good) := BS.Good.putAll _ HG.out
      have HLN : Hid ((x.putAll most (onF flags 1) (l.take k)).1.length = k) := by show _ = _; rw [putAll_length, List.length_take]; omega
      generalize (x.putAll most (onF flags 1) (l.take k)) = Y at *
      obtain ⟨L, y⟩ := Y
      go_wp2_with fail
      refine (HW.out.put s HKS.out HGG.out).mono ?_
      rintro r w2 ⟨rfl, he⟩
      have HE := Lib.hid he
      obtain ⟨va, vc, rfl, hvc⟩ := own_form (show OwnVals w2 w.heap.size u4 L from by obtain ⟨_, _, _, h, _⟩ := he; exact h)
      clear he HW
      obtain ⟨X, hX⟩ : ∃ X, (y.put most (onF flags 1) s).1 = X := ⟨_, rfl⟩
      have HX := Lib.hid hX
      rw [hX]
      clear hX
      obtain ⟨X0, X1, X2⟩ := X
      have HO2 : Hid (∀ o, OwnVals (w2.alloc o) w.heap.size (.slice va L.length vc) L) := fun o => by obtain ⟨_, _, _, h, _⟩ := HE.out; exact own_grew h ((Grew.refl _).alloc o)
      have HSZ : Hid (w.heap.size ≤ w2.heap.size) := by obtain ⟨_, _, h, _⟩ := HE.out; exact h.1.size
      go_wp2_with (at_builtin; refine wpList_appendV rfl _ _ rfl w.heap.size (.slice va L.length vc) L rfl (HO2.out _) _ [(X0, X1, X2)] rfl (vals_new _ _) (fun c h => by cases h) (by have := HLN.out; have := HL.out; simp at *; omega) (Nat.le_trans HSZ.out (by simp)) ?_; intro v' w3 hown hgr hqq; have HG3 := Lib.hid (HE.out.app hown hgr hqq); obtain ⟨va2, vc2, rfl, _⟩ := own_form hown; clear hown hgr hqq)
      go_roundw
      case rel =>
        refine ⟨k + 1, by omega, by go_num, ?_⟩
        show EnvV _ _ _ _ _ _ _ _ _ _
        rw [HTK.out, HSN.out]
        have hh := HG3.out
        rw [List.length_append] at hh
        rw [HX.out]
        exact hh
      case measure => simp [intOf]; omega
    · have ek : k = l.length := by omega
      subst ek
      have hw := HW.out
      rw [List.take_length] at hw
      have HE := Lib.hid hw
      clear hw HW
      go_wp2
      go_ret
      exact ⟨_, rfl, HE.out⟩
end Go.Proofs.YtjnpcddbgfmpcaaGreat

/-
  The builder in memory: Keys. Conditions: the builder lies in memory; the list of strings is none of its blocks.
-/
namespace Go.Proofs.YtjnpcddbgfmpcaaGreat
open Go Go.ChangeShapes Go.WideShapes Go.ChangeAt Go.RowKit Go.Joins Go.Deep
open Go.Proofs.YtjnpcddbgfmpcaaGreat.Ft (V3 vV okV ValsAt inlineB legalB packF codeF typedF allF)
set_option linter.unusedVariables false
set_option linter.unusedSimpArgs false
def EnvR (B : Nat) (q : Ptrs) (most flags : Int) (w0 : World) (κ0 : Nat → Nat) (Kp : List (Nat × Obj)) (x : BS) (L : List V3) : Nat → Value → World → Prop
  | 0, _, _ => False
  | 1, v, w => ∃ κ, Bd B q most flags κ x w ∧ Tn κ0 κ w0 w ∧ (∀ z ∈ Kp, w.heap[z.1]? = some z.2 ∧ κ z.1 = 0) ∧ (∃ b, OwnVals w b v L) ∧ ∀ g, v.ownBlock = some g → κ g = 0
  | _ + 2, _, _ => True
theorem EnvR.st {B : Nat} {q : Ptrs} {most flags : Int} {w0 : World} {κ0 : Nat → Nat} {Kp : List (Nat × Obj)} {x : BS} {L : List V3} : (∀ p v w w', (fun (_ : Nat) w w' => Grew w w') p w w' → EnvR B q most flags w0 κ0 Kp x L p v w → EnvR B q most flags w0 κ0 Kp x L p v w') ∧ ∀ p v w w', (fun _ _ _ => True : Nat → World → World → Prop) p w w' → EnvR B q most flags w0 κ0 Kp x L p v w → EnvR B q most flags w0 κ0 Kp x L (p + 1) v w' := by
  refine ⟨fun p v w w' hg h => ?_, fun p v w w' _ h => ?_⟩
  · match p, h with
    | 1, ⟨κ, h1, h2, h3, ⟨b, h4⟩, h5⟩ => exact ⟨κ, h1.grew hg, h2.trans (Tn.of_grew hg), fun z hz => ⟨hg.heap (h3 z hz).1, (h3 z hz).2⟩, ⟨b, own_grew h4 hg⟩, h5⟩
    | _ + 2, _ => trivial
  · match p, h with
    | 1, _ => trivial
    | _ + 2, _ => trivial
theorem cells_tn {α : Type} {f : α → Value} {κ κ1 : Nat → Nat} {w w' : World} {lv : Value} {l : List α} (hv : CellsAt f w lv l) (h : Apart0 κ w lv) (ht : Tn κ κ1 w w') : CellsAt f w' lv l := by
  obtain ⟨a, c, rfl, hc⟩ := hv
  refine ⟨a, c, rfl, fun i x hx => ?_⟩
  obtain ⟨b, off, rfl, h0⟩ := hc i x hx
  exact ⟨b, off, rfl, ht.1.cell h0 (fun e => e (h _ _ _ rfl).2)⟩
theorem put_keep {most : Int} {sh : Bool} {k : ByteArray} {x : BS} (hl : (x.s.1.length : Int) ≤ most) (hm : most ≤ 1048576) (hk : ∀ z ∈ x.keys, 0 ≤ z.2 ∧ z.2 ≤ 9007199254740991) :
    okV (x.put most sh k).1 ∧ ((x.put most sh k).2.s.1.length : Int) ≤ most ∧ ∀ z ∈ (x.put most sh k).2.keys, 0 ≤ z.2 ∧ z.2 ≤ 9007199254740991 := by
  have hg := getP_ok (k := k) hk
  unfold BS.put
  dsimp only
  by_cases hf : (x.fail (keyE k)).e ≠ 0
  · rw [if_pos hf]; exact ⟨ok0, hl, hk⟩
  · rw [if_neg hf]
    by_cases hgb : ((getP x.keys k).2 && sh) = true
    · rw [if_pos hgb]
      exact ⟨⟨hg.1, by show (getP x.keys k).1 ≤ _; omega⟩, hl, hk⟩
    · rw [if_neg hgb]
      exact ⟨⟨Int.natCast_nonneg _, by show (x.s.1.length : Int) ≤ _; omega⟩, putS_le hl, putP_ok hk⟩
theorem putAll_ok {most : Int} {sh : Bool} (hm : most ≤ 1048576) : ∀ (l : List ByteArray) (x : BS), (x.s.1.length : Int) ≤ most → (∀ z ∈ x.keys, 0 ≤ z.2 ∧ z.2 ≤ 9007199254740991) → ∀ v ∈ (x.putAll most sh l).1, okV v
  | [], _, _, _ => fun v hv => by cases hv
  | k :: r, x, hl, hk => fun v hv => by
    have hp := put_keep (sh := sh) (k := k) hl hm hk
    rcases List.mem_cons.1 hv with rfl | hv
    · exact hp.1
    · exact putAll_ok hm r _ hp.2.1 hp.2.2 v hv
set_option maxRecDepth 100000 in
set_option maxHeartbeats 4000000 in
theorem keys1_any {B : Nat} {q : Ptrs} {most flags : Int} {κ : Nat → Nat} {x : BS} {w : World} (n1 n2 : Nat) (la : Option Addr) (lc : Nat) (l : List ByteArray) (hp : CellsAt (fun x => .string x) w (.slice la l.length lc) l) (ha : Apart0 κ w (.slice la l.length lc)) (hk : ∀ k ∈ l, k.size ≤ 1048576) (hl : l.length ≤ 1048576) (hg : x.Good) (hx : x.e = 0) (he : Env B q most flags w κ [(n2, Obj.cells #[.slice la l.length lc] 34 (0, 0)), (n1, Obj.cells #[bptr q.p] 23 (0, 0))] x w) : Calls Tryz.prog 99 #[.pointer (some ⟨n1, 0, none⟩), .pointer (some ⟨n2, 0, none⟩)] w fun r w' => r = .returned (.tuple #[]) ∧ TurnX B q most flags κ (x.keyVec most (onF flags 1) l) w w' := by
  have HE := Lib.hid he
  have HM2 : Hid ((n2, Obj.cells #[.slice la l.length lc] 34 (0, 0)) ∈ ([(n2, Obj.cells #[.slice la l.length lc] 34 (0, 0)), (n1, Obj.cells #[bptr q.p] 23 (0, 0))] : List (Nat × Obj))) := List.mem_cons_self
  have HM1 : Hid ((n1, Obj.cells #[bptr q.p] 23 (0, 0)) ∈ ([(n2, Obj.cells #[.slice la l.length lc] 34 (0, 0)), (n1, Obj.cells #[bptr q.p] 23 (0, 0))] : List (Nat × Obj))) := List.mem_cons_of_mem _ (List.mem_cons_self)
  have HPA := Lib.hid (And.intro hp ha)
  have HK := Lib.hid (And.intro hk hl)
  have HG := Lib.hid hg
  have HGP : Hid ((x.putAll most (onF flags 1) l).2.Good) := BS.Good.putAll l hg
  have HOK : Hid (∀ v ∈ (x.putAll most (onF flags 1) l).1, okV v) := putAll_ok he.ok.m1 l x he.ok.len he.ok.okK
  have HLN : Hid ((x.putAll most (onF flags 1) l).1.length ≤ 1048576) := by show _ ≤ _; rw [putAll_length]; exact hl
  have HY : Hid (x.keyVec most (onF flags 1) l = (x.putAll most (onF flags 1) l).2.vector most 4 0 (x.putAll most (onF flags 1) l).1) := by show _ = _; unfold BS.keyVec; rw [if_pos hx]
  have HMS : Hid (∀ κ1 w2, Bd B q most flags κ1 x w2 → Tn κ κ1 w w2 → Calls Tryz.prog 100 #[.func (.func 95) #[bptr q.p] #[], .slice la l.length lc] w2 fun r w' => ∃ v', r = .returned v' ∧ EnvV B q most flags w2 κ1 (x.putAll most (onF flags 1) l).2 v' (x.putAll most (onF flags 1) l).1 w') := fun κ1 w2 hb ht => mapS_any l _ (cells_tn hp ha ht) (ha.tn ht) hk hl hg hb
  generalize (x.putAll most (onF flags 1) l) = Y at HGP HOK HLN HY HMS
  obtain ⟨L, yk⟩ := Y
  clear he hp ha hk hg hx
  go_enter Tryz.func99, Tryz.ntmps99
  go_wp2_with fail
  refine wp_region_phases [4, 5] (EnvW B q most flags w κ [(n2, Obj.cells #[.slice la l.length lc] 34 (0, 0)), (n1, Obj.cells #[bptr q.p] 23 (0, 0))] [x, yk] (yk.vector most 4 0 L)) (fun _ w w' => Grew w w') ((fun p (_ : Nat → Value) => (fun _ _ _ => True) p)) [[], [], [1], [], [1, 2, 3], [0, 1, 2, 3, 4]] [[(3, 1), (4, 2), (5, 3), (6, 4)], [(2, 0), (5, 3)], [(2, 0), (3, 1), (5, 3)], [(2, 0), (3, 1), (4, 2)], [(2, 0), (3, 1), (4, 2), (5, 3)], [(2, 0), (3, 1), (4, 2), (5, 3), (6, 4)]] [(2, 0), (3, 1), (4, 2), (5, 3), (6, 4), (7, 5)]
    [IsP (bptr q.p), IsP (bptr q.p), IsP (.func (.func 95) #[bptr q.p] #[]), IsP (.slice la l.length lc), EnvR B q most flags w κ [(n2, Obj.cells #[.slice la l.length lc] 34 (0, 0)), (n1, Obj.cells #[bptr q.p] 23 (0, 0))] yk L, IsP (.tuple #[])]
    (by kernel_rfl) (EnvW.grew) (HE.out.grew (Grew.refl _).drew) (by kernel_rfl) (by kernel_rfl) ⟨isP_st, isP_st, isP_st, isP_st, stOld (EnvR.st), isP_st, trivial⟩ rfl ?_ ?_
  · intro y w2 hW hF
    simp only [factsP, IsP, Nat.reduceAdd, List.length_cons, List.length_nil] at hF hW
    have h0 := hF.1
    have h1 := hF.2.1
    have h2 := hF.2.2.1
    have h3 := hF.2.2.2.1
    have h4 := hF.2.2.2.2.1
    have h5 := hF.2.2.2.2.2.1
    clear hF
    simp only [fillL, Act.put, List.setIfInBounds_toArray, List.set_cons_zero, List.set_cons_succ, List.getD_cons_zero, List.getD_cons_succ]
    simp only [h0, h1, h2, h3, h5]
    clear h0 h1 h2 h3 h5
    go_wp2
    go_end0
    exact ⟨rfl, by rw [HY.out]; exact Env.turn hW⟩
  refine ⟨?_, ?_⟩
  · refine wordP_read 0 1 (by kernel_rfl) (by kernel_rfl) (by kernel_rfl) ?_
    intro y w2 p hlo hhi hW hD K hK
    have d10 := Env.cell hW HM1.out 0 _ rfl
    clear hD
    generalize hAA : fillL y _ _ = AA at hK ⊢
    simp only [fillL, Act.put, List.setIfInBounds_toArray, List.set_cons_zero, List.set_cons_succ, List.getD_cons_zero, List.getD_cons_succ, IsP] at hAA
    subst hAA
    simp only [List.getD_cons_zero, List.getD_cons_succ, IsP] at hK
    refine ite_yes (by rfl) ?_
    go_simp
    exact hK _ _ _ rfl (Grew.refl _) rfl
  refine ⟨?_, ?_⟩
  · refine wordP_read 0 0 (by kernel_rfl) (by kernel_rfl) (by kernel_rfl) ?_
    intro y w2 p hlo hhi hW hD K hK
    have d10 := Env.cell hW HM1.out 0 _ rfl
    clear hD
    generalize hAA : fillL y _ _ = AA at hK ⊢
    simp only [fillL, Act.put, List.setIfInBounds_toArray, List.set_cons_zero, List.set_cons_succ, List.getD_cons_zero, List.getD_cons_succ, IsP] at hAA
    subst hAA
    simp only [List.getD_cons_zero, List.getD_cons_succ, IsP] at hK
    refine ite_yes (by rfl) ?_
    go_simp
    exact hK _ _ _ rfl (Grew.refl _) rfl
  refine ⟨?_, ?_⟩
  · refine wordP_read 0 0 (by kernel_rfl) (by kernel_rfl) (by kernel_rfl) ?_
    intro y w2 p hlo hhi hW hD K hK
    simp only [depsP, List.getD_cons_zero, List.getD_cons_succ, IsP] at hD
    have h1 := hD.1
    clear hD
    generalize hAA : fillL y _ _ = AA at hK ⊢
    simp only [fillL, Act.put, List.setIfInBounds_toArray, List.set_cons_zero, List.set_cons_succ, List.getD_cons_zero, List.getD_cons_succ, IsP] at hAA
    subst hAA
    simp only [List.getD_cons_zero, List.getD_cons_succ, IsP] at hK
    simp only [h1] at hK ⊢
    clear h1
    refine ite_yes (by rfl) ?_
    go_simp
    exact hK _ _ _ rfl (Grew.refl _) rfl
  refine ⟨?_, ?_⟩
  · refine wordP_read 0 0 (by kernel_rfl) (by kernel_rfl) (by kernel_rfl) ?_
    intro y w2 p hlo hhi hW hD K hK
    have d20 := Env.cell hW HM2.out 0 _ rfl
    clear hD
    generalize hAA : fillL y _ _ = AA at hK ⊢
    simp only [fillL, Act.put, List.setIfInBounds_toArray, List.set_cons_zero, List.set_cons_succ, List.getD_cons_zero, List.getD_cons_succ, IsP] at hAA
    subst hAA
    simp only [List.getD_cons_zero, List.getD_cons_succ, IsP] at hK
    refine ite_yes (by rfl) ?_
    go_simp
    exact hK _ _ _ rfl (Grew.refl _) rfl
  refine ⟨?_, ?_⟩
  · refine wordP_write 0 rfl ?_
    intro y w2 hW hD K hK
    simp only [depsP, List.getD_cons_zero, List.getD_cons_succ, IsP] at hD
    have h1 := hD.1
    have h2 := hD.2.1
    have h3 := hD.2.2.1
    clear hD
    generalize hAA : fillL y _ _ = AA at hK ⊢
    simp only [fillL, Act.put, List.setIfInBounds_toArray, List.set_cons_zero, List.set_cons_succ, List.getD_cons_zero, List.getD_cons_succ, IsP] at hAA
    subst hAA
    simp only [List.getD_cons_zero, List.getD_cons_succ, IsP] at hK
    simp only [h1, h2, h3] at hK ⊢
    clear h1 h2 h3
    refine ite_yes (by rfl) ?_
    go_simp
    obtain ⟨κ1, hb, ht, hkk⟩ := (show Env B q most flags w κ [(n2, Obj.cells #[.slice la l.length lc] 34 (0, 0)), (n1, Obj.cells #[bptr q.p] 23 (0, 0))] x w2 from hW)
    refine (HMS.out κ1 w2 hb ht).mono ?_
    rintro r w3 ⟨v', rfl, κ2, k1, k2, k3, k4⟩
    have hkp : ∀ z ∈ ([(n2, Obj.cells #[.slice la l.length lc] 34 (0, 0)), (n1, Obj.cells #[bptr q.p] 23 (0, 0))] : List (Nat × Obj)), w3.heap[z.1]? = some z.2 ∧ κ2 z.1 = 0 := fun z hz => ⟨k2.1.heap (hkk z hz).1 (fun e => e (hkk z hz).2), (k2.2 z.1 (Array.getElem?_eq_some_iff.1 (hkk z hz).1).1).trans (hkk z hz).2⟩
    exact hK _ _ _ rfl trivial ⟨κ2, k1, ht.trans k2, hkp⟩ ⟨κ2, k1, ht.trans k2, hkp, ⟨_, k3⟩, k4⟩
  refine ⟨?_, ?_⟩
  · refine wordP_write 1 rfl ?_
    intro y w2 hW hD K hK
    simp only [depsP, List.getD_cons_zero, List.getD_cons_succ, IsP] at hD
    have h0 := hD.1
    have h1 := hD.2.1
    have h2 := hD.2.2.1
    have h3 := hD.2.2.2.1
    have h4 := hD.2.2.2.2.1
    clear hD
    generalize hAA : fillL y _ _ = AA at hK ⊢
    simp only [fillL, Act.put, List.setIfInBounds_toArray, List.set_cons_zero, List.set_cons_succ, List.getD_cons_zero, List.getD_cons_succ, IsP] at hAA
    subst hAA
    simp only [List.getD_cons_zero, List.getD_cons_succ, IsP] at hK
    simp only [h0, h1, h2, h3] at hK ⊢
    clear h0 h1 h2 h3
    obtain ⟨κ1, hb, ht, hkk, ⟨b, ho⟩, hown⟩ := (show EnvR B q most flags w κ [(n2, Obj.cells #[.slice la l.length lc] 34 (0, 0)), (n1, Obj.cells #[bptr q.p] 23 (0, 0))] yk L 1 _ w2 from h4)
    obtain ⟨va, vc, hv, _⟩ := own_form ho
    rw [hv] at ho hown
    simp only [hv] at hK ⊢
    have hap : Apart0 κ1 w2 (.slice va L.length vc) := fun ad n c e => by cases e; exact ⟨(own_blk ho rfl).2, hown _ rfl⟩
    refine ite_yes (by rfl) ?_
    go_simp
    refine (vector_any 4 0 (.slice va L.length vc) L (.inr (.inl ⟨by decide, rfl, by kernel_rfl⟩)) ho.vals hap HLN.out HOK.out HGP.out hb).mono ?_
    rintro r w3 ⟨rfl, κ2, k1, k2⟩
    exact hK _ _ _ rfl trivial ⟨κ2, k1, ht.trans k2, fun z hz => ⟨k2.1.heap (hkk z hz).1 (fun e => e (hkk z hz).2), (k2.2 z.1 (Array.getElem?_eq_some_iff.1 (hkk z hz).1).1).trans (hkk z hz).2⟩⟩ rfl
  trivial
theorem bkeys_any {B : Nat} {q : Ptrs} {most flags : Int} {κ : Nat → Nat} {x : BS} {w : World} (la : Option Addr) (lc : Nat) (l : List ByteArray) (hp : CellsAt (fun x => .string x) w (.slice la l.length lc) l) (ha : Apart0 κ w (.slice la l.length lc)) (hk : ∀ k ∈ l, k.size ≤ 1048576) (hl : l.length ≤ 1048576) (hg : x.Good) (h : Bd B q most flags κ x w) : Calls Tryz.prog 46 #[bptr q.p, .slice la l.length lc] w fun r w' => r = .returned (.tuple #[]) ∧ TurnX B q most flags κ (x.keyVec most (onF flags 1) l) w w' := by
  have HPA := Lib.hid (And.intro hp ha)
  have HK := Lib.hid (And.intro hk hl)
  have HG := Lib.hid hg
  have HE : Hid (Env B q most flags w κ [(w.heap.size + 1, Obj.cells #[.slice la l.length lc] 34 (0, 0)), (w.heap.size, Obj.cells #[bptr q.p] 23 (0, 0))] x ((w.alloc (.cells #[bptr q.p] 23)).alloc (.cells #[.slice la l.length lc] 34))) := by
    have hh := ((Env.start h).add (.cells #[bptr q.p] 23)).add (.cells #[.slice la l.length lc] 34)
    simp only [World.size_alloc, Nat.add_assoc, Nat.reduceAdd] at hh
    exact hh
  clear h hp ha hk hl hg
  go_enter Tryz.func46, Tryz.ntmps46
  go_wp2_with fail
  refine (HE.out.callT fun κ1 hb ht he => unless_any hb _ _ (x.keyVec most (onF flags 1) l) (fun hx => by unfold BS.keyVec; rw [if_neg hx]) (fun _ => enters_of Tryz.func99 (by kernel_rfl) rfl _ _) (fun hx => keys1_any _ _ _ _ _ (cells_tn HPA.out.1 HPA.out.2 ht) (HPA.out.2.tn ht) HK.out.1 HK.out.2 HG.out hx he)).mono ?_
  rintro r w5 ⟨rfl, he⟩
  have HT := Lib.hid he
  clear he
  go_wp2
  go_end0
  exact ⟨rfl, HT.out.turn⟩
end Go.Proofs.YtjnpcddbgfmpcaaGreat
