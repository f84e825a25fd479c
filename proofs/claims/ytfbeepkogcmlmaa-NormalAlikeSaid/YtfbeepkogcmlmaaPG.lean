/-
  Texts of the proof, part 7 of 8.
-/
import Derived.Test.YtfbeepkogcmlmaaPF
import Derived.Test.YtfbeepkogcmlmaaPC
import Derived.Deep.QuietTactic
import Derived.BigQuiet
import Derived.StillTailTactics
import Derived.Test.YtfbeepkogcmlmaaPE
import Derived.Test.YtfbeepkogcmlmaaPD
import Derived.Deep.RegionWith
import Derived.Deep.CutBlock
import Derived.Deep.DeepCutAuto
import Derived.Test.YtfbeepkogcmlmaaPB

/-
  Keys: the reference's Order. Conditions: the list has at most 4096 keys.
-/
namespace Go.Proofs.Ytfbeepkogcmlmaa
open Go Go.ChangeShapes Go.WideShapes Go.ChangeAt Go.RowKit Go.Joins Go.Deep
set_option linter.unusedVariables false
set_option linter.unusedSimpArgs false

theorem wp_append_keep {o : Oper} {a : Act} {w : World} {K : Act → World → Prop} {Q : Exit → Act → World → Prop} (s x : Operand) (ho : o.op = .call { callee := .builtin .append, args := #[s, x], argTypes := #[69, 69] })
    (B : Nat) (v : Value) (L : List Int) (hs : a.eval s = v) (hown : OwnI w B v L) (sv : Value) (L2 : List Int) (hx : a.eval x = sv) (hsv : RowI w sv L2) (hlen : L.length + L2.length ≤ 16384) (hB : B ≤ w.heap.size) (hv0 : L.length = 0 → v = .slice none 0 0)
    (h : ∀ v' w', OwnI w' B v' (L ++ L2) → KeepN B (max L.length 1) w w' → (((L ++ L2).length = 0 → v' = .slice none 0 0) ∧ (v = .slice none 0 0 → Grew w w')) → K (a.put o.dst v') w') : o.wp Try.prog a w K Q := by
  obtain ⟨v', w', hr, h2, h3, h4, h5⟩ := run_append_keep w o.type B v L hown sv L2 hsv hlen hB hv0
  unfold Oper.wp execOp
  simp only [ho, resolve, invoke, builtin, Sem.run_bind, Sem.run_pure, Result.andThen_ok, List.map_toArray, List.map_cons, List.map_nil, hs, hx, hr]
  exact h v' w' h2 h3 ⟨h4, h5⟩
theorem RowI.at {w : World} {a : Option Addr} {n c : Nat} {L : List Int} (h : RowI w (.slice a n c) L) {i : Nat} {x : Int} (hx : L[i]? = some x) : ∃ b off, a = some ⟨b, off, none⟩ ∧ w.cell? ⟨b, off + i, none⟩ = some (.int .i64 x) := by
  obtain ⟨a', c', e, _, _, _, hr⟩ := h
  injection e with e1 _ _
  obtain ⟨_, b, off, e2, hc⟩ := hr i x hx
  exact ⟨b, off, by rw [e1, e2], hc⟩
abbrev ints (X : List Nat) : List Int := X.map fun (x : Nat) => (x : Int)
theorem own_one (w : World) (B : Nat) (hB : B ≤ w.heap.size) (x : Int) : OwnI (w.alloc (.cells #[.int .i64 x] 3)) B (.slice (some ⟨w.heap.size, 0, none⟩) 1 1) [x] :=
  ⟨rfl, .inr ⟨w.heap.size, 1, _, rfl, hB, heap_alloc_new _ _, Nat.le_refl _, by unfold maxLen; omega, rfl, rfl⟩⟩
set_option maxRecDepth 100000 in
set_option maxHeartbeats 4000000 in
theorem rorder_any (l : List ByteArray) (hl : l.length ≤ 4096) (lv : Value) (w : World) (hs : StrsAt w lv l) :
    Calls Try.prog 66 #[lv] w fun r w' => Grew w w' ∧ ∃ v, r = .returned (.tuple #[v, .int .i64 (ordK l).2]) ∧ RowI w' v (ordK l).1 := by
  have HS := Lib.hid hs
  obtain ⟨a, c, rfl⟩ := hs.form
  go_enter Try.func66, Try.ntmps66
  go_wp2_with fail
  go_loopw [4, 5] (fun o i wr => ∃ X : List Nat, X.length ≤ l.length ∧ i = .int .i64 X.length ∧ Hid (OrdI l X.length X ∧ Grew w wr ∧ OwnI wr w.heap.size o (ints X))) (fun _ i _ => l.length - (intOf i).toNat)
  case atStart => exact ⟨[], Nat.zero_le _, rfl, ⟨by simp, List.Pairwise.nil⟩, Grew.refl _, OwnI.nil _ _⟩
  case round =>
    obtain ⟨X, hq, rfl, HW⟩ := hrel
    obtain ⟨oa, oc, eo, ho1, ho2, ho3⟩ := rows_form HW.out.2.2
    subst eo
    rw [List.length_map] at ho1
    have HOW : Hid (OwnI wr w.heap.size (.slice oa X.length oc) (ints X)) := by
      have := HW.out.2.2; rwa [List.length_map] at this
    rw [List.length_map]
    by_cases hlt : X.length < l.length
    · obtain ⟨s, hsx⟩ : ∃ s, l[X.length]? = some s := ⟨_, List.getElem?_eq_getElem hlt⟩
      have hst := HS.out.grew HW.out.2.1
      obtain ⟨_, _, ee, _, _, _, hcell⟩ := HS.out
      cases ee
      obtain ⟨hz, b0, o0, e0, hc0⟩ := hcell X.length s hsx
      subst e0
      have HSX := Lib.hid (And.intro hsx hz)
      have HCELL := Lib.hid hcell
      have d0 := HW.out.2.1.cell hc0
      have hli : (X.length : Int) < l.length := by omega
      have hld : decide ((X.length : Int) < l.length) = true := decide_eq_true hli
      clear hcell hc0 hsx hz hst ho2 ho3
      go_wp2_with fail
      go_loopw [6] (fun i wr2 => ∃ k : Nat, k ≤ X.length ∧ i = .int .i64 k ∧ Hid (Grew wr wr2) ∧ Hid (∀ x ∈ X.take k, ltS (keyAt l x) s = true)) (fun i _ => X.length - (intOf i).toNat)
      case atStart => exact ⟨0, Nat.zero_le _, rfl, Grew.refl _, by show ∀ x ∈ X.take 0, _; simp⟩
      case round =>
        obtain ⟨k, hk, rfl, HGD, HV⟩ := hrel
        have hgd := HW.out.2.1.trans HGD.out
        replace d0 := HGD.out.cell d0
        by_cases hkX : k < X.length
        · obtain ⟨x, hx⟩ : ∃ x, X[k]? = some x := ⟨_, List.getElem?_eq_getElem hkX⟩
          have hxl : x < X.length := HW.out.1.lt (List.mem_of_getElem? hx)
          obtain ⟨sx, hsx⟩ : ∃ sx, l[x]? = some sx := ⟨_, List.getElem?_eq_getElem (by omega)⟩
          have hkx := keyAt_get hsx
          obtain ⟨hzx, bx, ox, ex, hcx⟩ := HCELL.out x sx hsx
          cases ex
          have dx := hgd.cell hcx
          obtain ⟨br, orr, e2, hcr⟩ := HOW.out.row.at (i := k) (x := (x : Int)) (by rw [List.getElem?_map, hx]; rfl)
          subst e2
          replace hcr := HGD.out.cell hcr
          have HGD2 := Lib.hid hgd
          clear hgd
          have hki : (k : Int) < X.length := by omega
          have hkd : decide ((k : Int) < X.length) = true := decide_eq_true hki
          have hxi : (x : Int) < l.length := by omega
          have HXX := Lib.hid (And.intro hx (And.intro hsx hkx))
          have hcall := fun w => rless_any sx s w hzx HSX.out.2
          clear hx hsx hkx hcx
          cases hls : ltS sx s with
          | true =>
            have HLS := Lib.hid hls
            rw [hls] at hcall
            have HCALL := Lib.hid hcall
            clear hls hcall
            go_wp2_with fail
            go_quiet ((go_at_call 74; exact Calls.quiet_of (HCALL.out _)))
            go_wp2_with fail
            go_roundw
            case rel => exact ⟨k + 1, by omega, by go_num, HGD.out.drewN _, by
              show ∀ y ∈ X.take (k + 1), _
              intro y hy
              rw [List.take_add_one, HXX.out.1] at hy
              rcases List.mem_append.1 hy with hy | hy
              · exact HV.out y hy
              · simp at hy; subst hy; rw [HXX.out.2.2]; exact HLS.out⟩
            case measure => simp [intOf]; omega
          | false =>
            have HLS := Lib.hid hls
            rw [hls] at hcall
            have HCALL := Lib.hid hcall
            clear hls hcall
            have hste := str_eq sx s
            by_cases hes : sx = s
            · have hd : decide (sx = s) = true := decide_eq_true hes
              rw [hd] at hste
              have HDUP : Hid (¬ l.Nodup) := by
                intro hnd
                have h1 := HXX.out.2.1
                have h2 := HSX.out.1
                rw [hes] at h1
                have hx1 := (List.getElem?_eq_some_iff.1 h1)
                have hx2 := (List.getElem?_eq_some_iff.1 h2)
                exact List.pairwise_iff_getElem.1 hnd x X.length hx1.1 hx2.1 hxl (hx1.2.trans hx2.2.symm)
              clear hes hd
              go_wp2_with fail
              go_quiet ((go_at_call 74; exact Calls.quiet_of (HCALL.out _)))
              go_wp2_with fail
              go_quiet (fail)
              go_wp2_with fail
              go_ret2
              have e : ordK l = ([], 71) := by unfold ordK; rw [if_neg HDUP.out]
              rw [e]
              exact ⟨(HGD2.out.drewN _).drewN _, _, rfl, RowI.nil _⟩
            · have hd : decide (sx = s) = false := decide_eq_false hes
              rw [hd] at hste
              have HNE := Lib.hid hes
              have horr : orr = 0 := by
                rcases HOW.out.2 with ⟨e, _⟩ | ⟨g, cap, cur, e, _⟩
                · cases e
                · injection e with e; injection e with e; injection e with _ e
              subst horr
              rw [Nat.zero_add] at hcr
              clear hes hd
              go_wp2_with fail
              go_quiet ((go_at_call 74; exact Calls.quiet_of (HCALL.out _)))
              generalize nq = n1
              go_wp2_with fail
              go_quiet (fail)
              go_wp2_with fail
              generalize nq = n2
              have HGV : Hid (Grew w ((wr.drewN n1).drewN n2)) := (HGD2.out.drewN _).drewN _
              have HOV : Hid (OwnI ((wr.drewN n1).drewN n2) w.heap.size (.slice (some ⟨br, 0, none⟩) X.length oc) (ints X)) := rows_grew HOW.out (((HGD.out.drewN n1).drewN n2))
              generalize ((wr.drewN n1).drewN n2) = wv at *
              obtain ⟨B, hB⟩ : ∃ B, wv.heap.size = B := ⟨_, rfl⟩
              have HBB : Hid (B ≤ wv.heap.size) := Nat.le_of_eq hB.symm
              have HDREW : Hid (Below B wv wv.drew) := by subst hB; exact (Grew.refl wv).drew
              obtain ⟨L1, hL1⟩ : ∃ L, (ints X).take k = L := ⟨_, rfl⟩
              obtain ⟨L2, hL2⟩ : ∃ L, (ints X).drop k = L := ⟨_, rfl⟩
              have HLL : Hid (L1.length = k ∧ k + L2.length ≤ 4096) := by
                show _ ∧ _
                rw [← hL1, ← hL2, List.length_take, List.length_drop, List.length_map]; omega
              have HLX : Hid (L1 ++ [(X.length : Int)] ++ L2 = ints (X.take k ++ [X.length] ++ X.drop k)) := by
                show _ = _
                rw [← hL1, ← hL2]; simp [ints, List.map_take, List.map_drop]
              have hrw : RowI wv (.slice (some ⟨br, 0, none⟩) (ints X).length oc) (ints X) := by rw [List.length_map]; exact HOV.out.row
              have HROW1 : Hid (∀ w', Below B wv w' → RowI w' (.slice (some ⟨br, 0, none⟩) k oc) L1) := by
                intro w' hb
                subst hB
                rw [← hL1]
                exact (RowI.take hrw (by rw [List.length_map]; omega)).below hb
              have HROW2 : Hid (∀ w', Below B wv w' → RowI w' (.slice (if oc = k then some ⟨br, 0, none⟩ else some ⟨br, k, none⟩) (X.length - k) (oc - k)) L2) := by
                intro w' hb
                subst hB
                rw [← hL2]
                have := (RowI.drop' hrw (k := k) (by rw [List.length_map]; omega)).below hb
                rwa [List.length_map] at this
              clear hrw
              have HORD : Hid (OrdI l (X.length + 1) (X.take k ++ [X.length] ++ X.drop k)) := by
                have hks := keyAt_get HSX.out.1
                refine HW.out.1.insert k (by omega) (fun y hy => by rw [hks]; exact HV.out y hy) (fun y hy => ?_)
                rw [hks]
                rw [HXX.out.1] at hy
                injection hy with hy
                subst hy
                rw [HXX.out.2.2]
                exact ⟨HLS.out, HNE.out⟩
              obtain ⟨X', hX'⟩ : ∃ X', X.take k ++ [X.length] ++ X.drop k = X' := ⟨_, rfl⟩
              rw [hX'] at HORD HLX
              have HXL : Hid (X'.length = X.length + 1) := HORD.out.len
              have HBV : Hid (wv.heap.size = B) := hB
              have hkoc : k ≤ oc := by omega
              clear hL1 hL2 hB hX' dx hcr d0
              refine wp_region_tablesD (Below B) 0 (fun _ => True) (stepA B k) [[], [], [], [1, 2], [0, 1, 2, 3], [], [5], [0, 1, 2, 3, 4, 5, 6], [], [], [8, 9], [0, 1, 2, 3, 4, 5, 6, 7, 8, 9, 10], [0, 1, 2, 3, 4, 5, 6, 7, 8, 9, 10, 11]] [[(53, 1), (54, 2), (55, 3), (57, 5), (58, 6), (60, 8), (61, 9), (62, 10)], [(52, 0), (54, 2), (57, 5), (58, 6), (60, 8), (61, 9), (62, 10)], [(52, 0), (53, 1), (57, 5), (58, 6), (60, 8), (61, 9), (62, 10)], [(52, 0), (53, 1), (54, 2), (57, 5), (58, 6), (60, 8), (61, 9), (62, 10)], [(52, 0), (53, 1), (54, 2), (55, 3), (57, 5), (58, 6), (60, 8), (61, 9), (62, 10)], [(52, 0), (53, 1), (54, 2), (55, 3), (56, 4), (60, 8), (61, 9), (62, 10)], [(52, 0), (53, 1), (54, 2), (55, 3), (56, 4), (57, 5), (60, 8), (61, 9), (62, 10)], [(52, 0), (53, 1), (54, 2), (55, 3), (56, 4), (57, 5), (58, 6), (60, 8), (61, 9), (62, 10)], [(52, 0), (53, 1), (54, 2), (55, 3), (56, 4), (57, 5), (58, 6), (59, 7), (61, 9)], [(52, 0), (53, 1), (54, 2), (55, 3), (56, 4), (57, 5), (58, 6), (59, 7), (60, 8)], [(52, 0), (53, 1), (54, 2), (55, 3), (56, 4), (57, 5), (58, 6), (59, 7), (60, 8), (61, 9)], [(52, 0), (53, 1), (54, 2), (55, 3), (56, 4), (57, 5), (58, 6), (59, 7), (60, 8), (61, 9), (62, 10)], [(52, 0), (53, 1), (54, 2), (55, 3), (56, 4), (57, 5), (58, 6), (59, 7), (60, 8), (61, 9), (62, 10), (63, 11)]] [(52, 0), (53, 1), (54, 2), (55, 3), (56, 4), (57, 5), (58, 6), (59, 7), (60, 8), (61, 9), (62, 10), (63, 11), (4, 12)]
                [fun y v w => v = .slice none 0 0, fun y v w => v = .slice (some ⟨br, 0, none⟩) X.length oc, fun y v w => v = .int .i64 k, fun y v w => v = .slice (some ⟨br, 0, none⟩) k oc, fun y v w => OwnI w B v L1 ∧ (L1.length = 0 → v = .slice none 0 0), fun y v w => v = .int .i64 X.length, fun y v w => OwnI w B v [(X.length : Int)], fun y v w => OwnI w B v (L1 ++ [(X.length : Int)]), fun y v w => v = .slice (some ⟨br, 0, none⟩) X.length oc, fun y v w => v = .int .i64 k, fun y v w => v = .slice (if oc = k then some ⟨br, 0, none⟩ else some ⟨br, k, none⟩) (X.length - k) (oc - k), fun y v w => OwnI w B v (L1 ++ [(X.length : Int)] ++ L2), fun y v w => OwnI w B v (L1 ++ [(X.length : Int)] ++ L2)]
                (by kernel_rfl) (fun h k => Below.trans h k) (Below.refl _) stepA.below stepA.refl (fun _ _ _ _ _ h => h) trivial HDREW.out (by kernel_rfl)
                ⟨fun i hi hnd y v w w' ht h => h, fun i hi hnd y v w w' ht h => h, fun i hi hnd y v w w' ht h => h, fun i hi hnd y v w w' ht h => h, fun i hi hnd y v w w' ht h => ⟨h.1.step ht (fun _ => by have := HLL.out.1; omega) (fun _ => by have := HLL.out.1; omega), h.2⟩, fun i hi hnd y v w w' ht h => h, fun i hi hnd y v w w' ht h => h.step ht (fun _ => by simp; omega) (fun _ => by simp), fun i hi hnd y v w w' ht h => h.step ht (fun e => absurd e hi) (fun _ => by have := HLL.out.1; simp; omega), fun i hi hnd y v w w' ht h => h, fun i hi hnd y v w w' ht h => h, fun i hi hnd y v w w' ht h => h, fun i hi hnd y v w w' ht h => h.step ht (fun e => by subst e; exact absurd hnd (by decide)) (fun e => absurd e hi), fun i hi hnd y v w w' ht h => h.step ht (fun e => by subst e; exact absurd hnd (by decide)) (fun e => by subst e; exact absurd hnd (by decide)), trivial⟩
                ⟨fun _ _ _ _ _ h => h, fun _ _ _ _ _ h => h, fun _ _ _ _ _ h => h, fun _ _ _ _ _ h => h, fun _ _ _ _ _ h => h, fun _ _ _ _ _ h => h, fun _ _ _ _ _ h => h, fun _ _ _ _ _ h => h, fun _ _ _ _ _ h => h, fun _ _ _ _ _ h => h, fun _ _ _ _ _ h => h, fun _ _ _ _ _ h => h, fun _ _ _ _ _ h => h, trivial⟩
                ⟨?_, ?_, ?_, ?_, ?_, ?_, ?_, ?_, ?_, ?_, ?_, ?_, ?_, trivial⟩ rfl ?_
              · intro y w2 hG hI hD K hK
                clear hI
                have hBs : B ≤ w2.heap.size := Nat.le_trans HBB.out hG.size
                simp only [fillL, Act.put, List.setIfInBounds_toArray, List.set_cons_zero, List.set_cons_succ, List.getD_cons_zero, List.getD_cons_succ] at hK ⊢
                refine ite_yes (by rfl) ?_
                go_simp
                exact hK _ _ _ rfl (stepA.refl _ _) rfl
              · intro y w2 hG hI hD K hK
                clear hI
                have hBs : B ≤ w2.heap.size := Nat.le_trans HBB.out hG.size
                simp only [fillL, Act.put, List.setIfInBounds_toArray, List.set_cons_zero, List.set_cons_succ, List.getD_cons_zero, List.getD_cons_succ] at hK ⊢
                refine ite_yes (by rfl) ?_
                go_simp
                exact hK _ _ _ rfl (stepA.refl _ _) rfl
              · intro y w2 hG hI hD K hK
                clear hI
                have hBs : B ≤ w2.heap.size := Nat.le_trans HBB.out hG.size
                simp only [fillL, Act.put, List.setIfInBounds_toArray, List.set_cons_zero, List.set_cons_succ, List.getD_cons_zero, List.getD_cons_succ] at hK ⊢
                refine ite_yes (by rfl) ?_
                go_simp
                exact hK _ _ _ rfl (stepA.refl _ _) rfl
              · intro y w2 hG hI hD K hK
                clear hI
                have hBs : B ≤ w2.heap.size := Nat.le_trans HBB.out hG.size
                simp only [depsT, List.getD_cons_zero, List.getD_cons_succ, and_true] at hD
                have h1 := hD.1
                have h2 := hD.2
                clear hD
                simp only [fillL, Act.put, List.setIfInBounds_toArray, List.set_cons_zero, List.set_cons_succ, List.getD_cons_zero, List.getD_cons_succ] at hK ⊢
                simp only [h1, h2] at hK ⊢
                clear h1 h2
                refine ite_yes (by rfl) ?_
                go_simp
                exact hK _ _ _ rfl (stepA.refl _ _) rfl
              · intro y w2 hG hI hD K hK
                clear hI
                have hBs : B ≤ w2.heap.size := Nat.le_trans HBB.out hG.size
                simp only [depsT, List.getD_cons_zero, List.getD_cons_succ, and_true] at hD
                have h0 := hD.1
                have h1 := hD.2.1
                have h2 := hD.2.2.1
                have h3 := hD.2.2.2
                clear hD
                simp only [fillL, Act.put, List.setIfInBounds_toArray, List.set_cons_zero, List.set_cons_succ, List.getD_cons_zero, List.getD_cons_succ] at hK ⊢
                simp only [h0, h1, h2, h3] at hK ⊢
                clear h0 h1 h2 h3
                refine ite_yes (by rfl) ?_
                refine wp_append_keep _ _ rfl B (.slice none 0 0) [] rfl (OwnI.nil _ _) (.slice (some ⟨br, 0, none⟩) k oc) L1 rfl (HROW1.out _ hG) (by have := HLL.out; simp; omega) hBs (fun _ => rfl) ?_
                intro v' w' ho hk h0
                exact hK _ _ _ rfl ⟨hk.1, .inr (.inr (h0.2 rfl))⟩ ⟨by simpa using ho, fun h => h0.1 (by simpa using h)⟩
              · intro y w2 hG hI hD K hK
                clear hI
                have hBs : B ≤ w2.heap.size := Nat.le_trans HBB.out hG.size
                simp only [fillL, Act.put, List.setIfInBounds_toArray, List.set_cons_zero, List.set_cons_succ, List.getD_cons_zero, List.getD_cons_succ] at hK ⊢
                refine ite_yes (by rfl) ?_
                go_simp
                exact hK _ _ _ rfl (stepA.refl _ _) rfl
              · intro y w2 hG hI hD K hK
                clear hI
                have hBs : B ≤ w2.heap.size := Nat.le_trans HBB.out hG.size
                simp only [depsT, List.getD_cons_zero, List.getD_cons_succ, and_true] at hD
                have h5 := hD
                clear hD
                simp only [fillL, Act.put, List.setIfInBounds_toArray, List.set_cons_zero, List.set_cons_succ, List.getD_cons_zero, List.getD_cons_succ] at hK ⊢
                simp only [h5] at hK ⊢
                clear h5
                refine ite_yes (by rfl) ?_
                go_simp
                exact hK _ _ _ rfl (stepA.grew hBs ((Grew.refl _).alloc _)) (own_one _ _ hBs _)
              · intro y w2 hG hI hD K hK
                clear hI
                have hBs : B ≤ w2.heap.size := Nat.le_trans HBB.out hG.size
                simp only [depsT, List.getD_cons_zero, List.getD_cons_succ, and_true] at hD
                have h0 := hD.1
                have h1 := hD.2.1
                have h2 := hD.2.2.1
                have h3 := hD.2.2.2.1
                have h4 := hD.2.2.2.2.1
                have h5 := hD.2.2.2.2.2.1
                have h6 := hD.2.2.2.2.2.2
                clear hD
                simp only [fillL, Act.put, List.setIfInBounds_toArray, List.set_cons_zero, List.set_cons_succ, List.getD_cons_zero, List.getD_cons_succ] at hK ⊢
                simp only [h0, h1, h2, h3, h5] at hK ⊢
                clear h0 h1 h2 h3 h5
                refine ite_yes (by rfl) ?_
                refine wp_append_keep _ _ rfl B (y 4) L1 rfl h4.1 (y 6) [(X.length : Int)] rfl h6.row (by have := HLL.out; simp; omega) hBs h4.2 ?_
                intro v' w' ho hk _
                exact hK _ _ _ rfl ⟨hk.1, .inl ⟨rfl, by rw [← HLL.out.1]; exact hk⟩⟩ ho
              · intro y w2 hG hI hD K hK
                clear hI
                have hBs : B ≤ w2.heap.size := Nat.le_trans HBB.out hG.size
                simp only [fillL, Act.put, List.setIfInBounds_toArray, List.set_cons_zero, List.set_cons_succ, List.getD_cons_zero, List.getD_cons_succ] at hK ⊢
                refine ite_yes (by rfl) ?_
                go_simp
                exact hK _ _ _ rfl (stepA.refl _ _) rfl
              · intro y w2 hG hI hD K hK
                clear hI
                have hBs : B ≤ w2.heap.size := Nat.le_trans HBB.out hG.size
                simp only [fillL, Act.put, List.setIfInBounds_toArray, List.set_cons_zero, List.set_cons_succ, List.getD_cons_zero, List.getD_cons_succ] at hK ⊢
                refine ite_yes (by rfl) ?_
                go_simp
                exact hK _ _ _ rfl (stepA.refl _ _) rfl
              · intro y w2 hG hI hD K hK
                clear hI
                have hBs : B ≤ w2.heap.size := Nat.le_trans HBB.out hG.size
                simp only [depsT, List.getD_cons_zero, List.getD_cons_succ, and_true] at hD
                have h8 := hD.1
                have h9 := hD.2
                clear hD
                simp only [fillL, Act.put, List.setIfInBounds_toArray, List.set_cons_zero, List.set_cons_succ, List.getD_cons_zero, List.getD_cons_succ] at hK ⊢
                simp only [h8, h9] at hK ⊢
                clear h8 h9
                refine ite_yes (by rfl) ?_
                go_simp
                exact hK _ _ _ rfl (stepA.refl _ _) rfl
              · intro y w2 hG hI hD K hK
                clear hI
                have hBs : B ≤ w2.heap.size := Nat.le_trans HBB.out hG.size
                simp only [depsT, List.getD_cons_zero, List.getD_cons_succ, and_true] at hD
                have h0 := hD.1
                have h1 := hD.2.1
                have h2 := hD.2.2.1
                have h3 := hD.2.2.2.1
                have h4 := hD.2.2.2.2.1
                have h5 := hD.2.2.2.2.2.1
                have h6 := hD.2.2.2.2.2.2.1
                have h7 := hD.2.2.2.2.2.2.2.1
                have h8 := hD.2.2.2.2.2.2.2.2.1
                have h9 := hD.2.2.2.2.2.2.2.2.2.1
                have h10 := hD.2.2.2.2.2.2.2.2.2.2
                clear hD
                simp only [fillL, Act.put, List.setIfInBounds_toArray, List.set_cons_zero, List.set_cons_succ, List.getD_cons_zero, List.getD_cons_succ] at hK ⊢
                simp only [h0, h1, h2, h3, h5, h8, h9, h10] at hK ⊢
                clear h0 h1 h2 h3 h5 h8 h9 h10
                refine ite_yes (by rfl) ?_
                refine wp_append_keep _ _ rfl B (y 7) (L1 ++ [(X.length : Int)]) rfl h7 (.slice (if oc = k then some ⟨br, 0, none⟩ else some ⟨br, k, none⟩) (X.length - k) (oc - k)) L2 rfl (HROW2.out _ hG) (by have := HLL.out; simp; omega) hBs (fun h => by simp at h) ?_
                intro v' w' ho hk _
                refine hK _ _ _ rfl ⟨hk.1, .inr (.inl ⟨rfl, ?_⟩)⟩ ho
                have e : max (L1 ++ [(X.length : Int)]).length 1 = k + 1 := by have := HLL.out.1; simp; omega
                rw [e] at hk; exact hk
              · intro y w2 hG hI hD K hK
                clear hI
                have hBs : B ≤ w2.heap.size := Nat.le_trans HBB.out hG.size
                simp only [depsT, List.getD_cons_zero, List.getD_cons_succ, and_true] at hD
                have h0 := hD.1
                have h1 := hD.2.1
                have h2 := hD.2.2.1
                have h3 := hD.2.2.2.1
                have h4 := hD.2.2.2.2.1
                have h5 := hD.2.2.2.2.2.1
                have h6 := hD.2.2.2.2.2.2.1
                have h7 := hD.2.2.2.2.2.2.2.1
                have h8 := hD.2.2.2.2.2.2.2.2.1
                have h9 := hD.2.2.2.2.2.2.2.2.2.1
                have h10 := hD.2.2.2.2.2.2.2.2.2.2.1
                have h11 := hD.2.2.2.2.2.2.2.2.2.2.2
                clear hD
                simp only [fillL, Act.put, List.setIfInBounds_toArray, List.set_cons_zero, List.set_cons_succ, List.getD_cons_zero, List.getD_cons_succ] at hK ⊢
                simp only [h0, h1, h2, h3, h5, h8, h9, h10] at hK ⊢
                clear h0 h1 h2 h3 h5 h8 h9 h10
                refine ite_yes (by rfl) ?_
                go_simp
                exact hK _ _ _ rfl (stepA.refl _ _) h11
              · intro y w2 hG hF
                simp only [factsT, and_true, Nat.reduceAdd] at hF
                have h0 := hF.1
                have h1 := hF.2.1
                have h2 := hF.2.2.1
                have h3 := hF.2.2.2.1
                have h4 := hF.2.2.2.2.1
                have h5 := hF.2.2.2.2.2.1
                have h6 := hF.2.2.2.2.2.2.1
                have h7 := hF.2.2.2.2.2.2.2.1
                have h8 := hF.2.2.2.2.2.2.2.2.1
                have h9 := hF.2.2.2.2.2.2.2.2.2.1
                have h10 := hF.2.2.2.2.2.2.2.2.2.2.1
                have h11 := hF.2.2.2.2.2.2.2.2.2.2.2.1
                have h12 := hF.2.2.2.2.2.2.2.2.2.2.2.2
                clear hF
                simp only [fillL, Act.put, List.setIfInBounds_toArray, List.set_cons_zero, List.set_cons_succ, List.getD_cons_zero, List.getD_cons_succ]
                simp only [h0, h1, h2, h3, h5, h8, h9, h10]
                clear h0 h1 h2 h3 h5 h8 h9 h10
                obtain ⟨a12, c12, e12, _⟩ := rows_form h12
                rw [e12] at h12 ⊢
                have HF : Hid (Grew w w2 ∧ OwnI w2 w.heap.size (.slice a12 (L1 ++ [(X.length : Int)] ++ L2).length c12) (ints X')) := by
                  have hgv := HGV.out
                  have hb := HBV.out
                  subst hb
                  refine ⟨hgv.trans hG, ?_⟩
                  have := rows_base h12 hgv.size
                  unfold OwnI
                  rw [← HLX.out]; exact this
                clear h4 h6 h7 h11 h12 hG e12
                go_wp2_with fail
                go_roundw
                case rel =>
                  refine ⟨X', by have := HXL.out; omega, by rw [HXL.out]; go_num, ?_⟩
                  have h1 := HORD.out
                  rw [← HXL.out] at h1
                  exact ⟨h1, HF.out⟩
                case measure => simp [intOf]; omega
        · have HKE : Hid (k = X.length) := by show _ = _; omega
          have hkd : decide ((k : Int) < X.length) = false := decide_eq_false (by omega)
          have HGD2 := Lib.hid hgd
          clear hgd
          go_wp2_with fail
          go_quiet (fail)
          generalize nq = n1
          go_wp2_with fail
          go_quiet (fail)
          go_wp2_with fail
          rcases hoa : oa with _ | ad
          · subst hoa
            have HX0 : Hid (X.length = 0 ∧ oc = 0) := by
              rcases HOW.out.2 with ⟨e, _⟩ | ⟨g, cap, cur, e, _⟩
              · injection e with _ e1 e2; exact ⟨e1, e2⟩
              · injection e with e; cases e
            generalize nq = n2
            have HGV : Hid (Grew w ((wr.drewN n1).drewN n2)) := (HGD2.out.drewN _).drewN _
            have HOV : Hid (OwnI ((wr.drewN n1).drewN n2) w.heap.size (.slice none X.length oc) (ints X)) := rows_grew HOW.out (((HGD.out.drewN n1).drewN n2))
            generalize ((wr.drewN n1).drewN n2) = wv at *
            obtain ⟨B, hB⟩ : ∃ B, wv.heap.size = B := ⟨_, rfl⟩
            have HBB : Hid (B ≤ wv.heap.size) := Nat.le_of_eq hB.symm
            have HDREW : Hid (Below B wv wv.drew) := by subst hB; exact (Grew.refl wv).drew
            obtain ⟨L1, hL1⟩ : ∃ L, (ints X).take k = L := ⟨_, rfl⟩
            obtain ⟨L2, hL2⟩ : ∃ L, (ints X).drop k = L := ⟨_, rfl⟩
            have HLL : Hid (L1.length = k ∧ k + L2.length ≤ 4096) := by
              show _ ∧ _
              rw [← hL1, ← hL2, List.length_take, List.length_drop, List.length_map]; omega
            have HLX : Hid (L1 ++ [(X.length : Int)] ++ L2 = ints (X.take k ++ [X.length] ++ X.drop k)) := by
              show _ = _
              rw [← hL1, ← hL2]; simp [ints, List.map_take, List.map_drop]
            have HROW1 : Hid (∀ w', Below B wv w' → RowI w' (.slice none k oc) L1) := by
              intro w' hb
              have e : L1 = [] := List.eq_nil_of_length_eq_zero (by have := HLL.out.1; have := HX0.out.1; omega)
              rw [e]; exact ⟨none, oc, by rw [show k = 0 by have := HX0.out.1; omega]; rfl, Nat.zero_le _, by have := HX0.out.2; unfold lenok; omega, fun _ => HX0.out.2, by simp⟩
            have HROW2 : Hid (∀ w', Below B wv w' → RowI w' (.slice none (X.length - k) (oc - k)) L2) := by
              intro w' hb
              have e : L2 = [] := by rw [← hL2]; exact List.drop_eq_nil_of_le (by rw [List.length_map]; have := HX0.out.1; omega)
              rw [e, show X.length - k = 0 by have := HX0.out.1; omega]; exact ⟨none, oc - k, rfl, Nat.zero_le _, by have := HX0.out.2; unfold lenok; omega, fun _ => by have := HX0.out.2; omega, by simp⟩
            have HORD : Hid (OrdI l (X.length + 1) (X.take k ++ [X.length] ++ X.drop k)) := by
              have hks := keyAt_get HSX.out.1
              refine HW.out.1.insert k (by omega) (fun y hy => by rw [hks]; exact HV.out y hy) (fun y hy => ?_)
              rw [hks]
              rw [List.getElem?_eq_none (by have := HKE.out; omega)] at hy
              cases hy
            obtain ⟨X', hX'⟩ : ∃ X', X.take k ++ [X.length] ++ X.drop k = X' := ⟨_, rfl⟩
            rw [hX'] at HORD HLX
            have HXL : Hid (X'.length = X.length + 1) := HORD.out.len
            have HBV : Hid (wv.heap.size = B) := hB
            have hkoc : k ≤ oc := by omega
            clear hL1 hL2 hB hX' d0
            refine wp_region_tablesD (Below B) 0 (fun _ => True) (stepA B k) [[], [], [], [1, 2], [0, 1, 2, 3], [], [5], [0, 1, 2, 3, 4, 5, 6], [], [], [8, 9], [0, 1, 2, 3, 4, 5, 6, 7, 8, 9, 10], [0, 1, 2, 3, 4, 5, 6, 7, 8, 9, 10, 11]] [[(53, 1), (54, 2), (55, 3), (57, 5), (58, 6), (60, 8), (61, 9), (62, 10)], [(52, 0), (54, 2), (57, 5), (58, 6), (60, 8), (61, 9), (62, 10)], [(52, 0), (53, 1), (57, 5), (58, 6), (60, 8), (61, 9), (62, 10)], [(52, 0), (53, 1), (54, 2), (57, 5), (58, 6), (60, 8), (61, 9), (62, 10)], [(52, 0), (53, 1), (54, 2), (55, 3), (57, 5), (58, 6), (60, 8), (61, 9), (62, 10)], [(52, 0), (53, 1), (54, 2), (55, 3), (56, 4), (60, 8), (61, 9), (62, 10)], [(52, 0), (53, 1), (54, 2), (55, 3), (56, 4), (57, 5), (60, 8), (61, 9), (62, 10)], [(52, 0), (53, 1), (54, 2), (55, 3), (56, 4), (57, 5), (58, 6), (60, 8), (61, 9), (62, 10)], [(52, 0), (53, 1), (54, 2), (55, 3), (56, 4), (57, 5), (58, 6), (59, 7), (61, 9)], [(52, 0), (53, 1), (54, 2), (55, 3), (56, 4), (57, 5), (58, 6), (59, 7), (60, 8)], [(52, 0), (53, 1), (54, 2), (55, 3), (56, 4), (57, 5), (58, 6), (59, 7), (60, 8), (61, 9)], [(52, 0), (53, 1), (54, 2), (55, 3), (56, 4), (57, 5), (58, 6), (59, 7), (60, 8), (61, 9), (62, 10)], [(52, 0), (53, 1), (54, 2), (55, 3), (56, 4), (57, 5), (58, 6), (59, 7), (60, 8), (61, 9), (62, 10), (63, 11)]] [(52, 0), (53, 1), (54, 2), (55, 3), (56, 4), (57, 5), (58, 6), (59, 7), (60, 8), (61, 9), (62, 10), (63, 11), (4, 12)]
              [fun y v w => v = .slice none 0 0, fun y v w => v = .slice none X.length oc, fun y v w => v = .int .i64 k, fun y v w => v = .slice none k oc, fun y v w => OwnI w B v L1 ∧ (L1.length = 0 → v = .slice none 0 0), fun y v w => v = .int .i64 X.length, fun y v w => OwnI w B v [(X.length : Int)], fun y v w => OwnI w B v (L1 ++ [(X.length : Int)]), fun y v w => v = .slice none X.length oc, fun y v w => v = .int .i64 k, fun y v w => v = .slice none (X.length - k) (oc - k), fun y v w => OwnI w B v (L1 ++ [(X.length : Int)] ++ L2), fun y v w => OwnI w B v (L1 ++ [(X.length : Int)] ++ L2)]
              (by kernel_rfl) (fun h k => Below.trans h k) (Below.refl _) stepA.below stepA.refl (fun _ _ _ _ _ h => h) trivial HDREW.out (by kernel_rfl)
              ⟨fun i hi hnd y v w w' ht h => h, fun i hi hnd y v w w' ht h => h, fun i hi hnd y v w w' ht h => h, fun i hi hnd y v w w' ht h => h, fun i hi hnd y v w w' ht h => ⟨h.1.step ht (fun _ => by have := HLL.out.1; omega) (fun _ => by have := HLL.out.1; omega), h.2⟩, fun i hi hnd y v w w' ht h => h, fun i hi hnd y v w w' ht h => h.step ht (fun _ => by simp; omega) (fun _ => by simp), fun i hi hnd y v w w' ht h => h.step ht (fun e => absurd e hi) (fun _ => by have := HLL.out.1; simp; omega), fun i hi hnd y v w w' ht h => h, fun i hi hnd y v w w' ht h => h, fun i hi hnd y v w w' ht h => h, fun i hi hnd y v w w' ht h => h.step ht (fun e => by subst e; exact absurd hnd (by decide)) (fun e => absurd e hi), fun i hi hnd y v w w' ht h => h.step ht (fun e => by subst e; exact absurd hnd (by decide)) (fun e => by subst e; exact absurd hnd (by decide)), trivial⟩
              ⟨fun _ _ _ _ _ h => h, fun _ _ _ _ _ h => h, fun _ _ _ _ _ h => h, fun _ _ _ _ _ h => h, fun _ _ _ _ _ h => h, fun _ _ _ _ _ h => h, fun _ _ _ _ _ h => h, fun _ _ _ _ _ h => h, fun _ _ _ _ _ h => h, fun _ _ _ _ _ h => h, fun _ _ _ _ _ h => h, fun _ _ _ _ _ h => h, fun _ _ _ _ _ h => h, trivial⟩
              ⟨?_, ?_, ?_, ?_, ?_, ?_, ?_, ?_, ?_, ?_, ?_, ?_, ?_, trivial⟩ rfl ?_
            · intro y w2 hG hI hD K hK
              clear hI
              have hBs : B ≤ w2.heap.size := Nat.le_trans HBB.out hG.size
              simp only [fillL, Act.put, List.setIfInBounds_toArray, List.set_cons_zero, List.set_cons_succ, List.getD_cons_zero, List.getD_cons_succ] at hK ⊢
              refine ite_yes (by rfl) ?_
              go_simp
              exact hK _ _ _ rfl (stepA.refl _ _) rfl
            · intro y w2 hG hI hD K hK
              clear hI
              have hBs : B ≤ w2.heap.size := Nat.le_trans HBB.out hG.size
              simp only [fillL, Act.put, List.setIfInBounds_toArray, List.set_cons_zero, List.set_cons_succ, List.getD_cons_zero, List.getD_cons_succ] at hK ⊢
              refine ite_yes (by rfl) ?_
              go_simp
              exact hK _ _ _ rfl (stepA.refl _ _) rfl
            · intro y w2 hG hI hD K hK
              clear hI
              have hBs : B ≤ w2.heap.size := Nat.le_trans HBB.out hG.size
              simp only [fillL, Act.put, List.setIfInBounds_toArray, List.set_cons_zero, List.set_cons_succ, List.getD_cons_zero, List.getD_cons_succ] at hK ⊢
              refine ite_yes (by rfl) ?_
              go_simp
              exact hK _ _ _ rfl (stepA.refl _ _) rfl
            · intro y w2 hG hI hD K hK
              clear hI
              have hBs : B ≤ w2.heap.size := Nat.le_trans HBB.out hG.size
              simp only [depsT, List.getD_cons_zero, List.getD_cons_succ, and_true] at hD
              have h1 := hD.1
              have h2 := hD.2
              clear hD
              simp only [fillL, Act.put, List.setIfInBounds_toArray, List.set_cons_zero, List.set_cons_succ, List.getD_cons_zero, List.getD_cons_succ] at hK ⊢
              simp only [h1, h2] at hK ⊢
              clear h1 h2
              refine ite_yes (by rfl) ?_
              go_simp
              exact hK _ _ _ rfl (stepA.refl _ _) rfl
            · intro y w2 hG hI hD K hK
              clear hI
              have hBs : B ≤ w2.heap.size := Nat.le_trans HBB.out hG.size
              simp only [depsT, List.getD_cons_zero, List.getD_cons_succ, and_true] at hD
              have h0 := hD.1
              have h1 := hD.2.1
              have h2 := hD.2.2.1
              have h3 := hD.2.2.2
              clear hD
              simp only [fillL, Act.put, List.setIfInBounds_toArray, List.set_cons_zero, List.set_cons_succ, List.getD_cons_zero, List.getD_cons_succ] at hK ⊢
              simp only [h0, h1, h2, h3] at hK ⊢
              clear h0 h1 h2 h3
              refine ite_yes (by rfl) ?_
              refine wp_append_keep _ _ rfl B (.slice none 0 0) [] rfl (OwnI.nil _ _) (.slice none k oc) L1 rfl (HROW1.out _ hG) (by have := HLL.out; simp; omega) hBs (fun _ => rfl) ?_
              intro v' w' ho hk h0
              exact hK _ _ _ rfl ⟨hk.1, .inr (.inr (h0.2 rfl))⟩ ⟨by simpa using ho, fun h => h0.1 (by simpa using h)⟩
            · intro y w2 hG hI hD K hK
              clear hI
              have hBs : B ≤ w2.heap.size := Nat.le_trans HBB.out hG.size
              simp only [fillL, Act.put, List.setIfInBounds_toArray, List.set_cons_zero, List.set_cons_succ, List.getD_cons_zero, List.getD_cons_succ] at hK ⊢
              refine ite_yes (by rfl) ?_
              go_simp
              exact hK _ _ _ rfl (stepA.refl _ _) rfl
            · intro y w2 hG hI hD K hK
              clear hI
              have hBs : B ≤ w2.heap.size := Nat.le_trans HBB.out hG.size
              simp only [depsT, List.getD_cons_zero, List.getD_cons_succ, and_true] at hD
              have h5 := hD
              clear hD
              simp only [fillL, Act.put, List.setIfInBounds_toArray, List.set_cons_zero, List.set_cons_succ, List.getD_cons_zero, List.getD_cons_succ] at hK ⊢
              simp only [h5] at hK ⊢
              clear h5
              refine ite_yes (by rfl) ?_
              go_simp
              exact hK _ _ _ rfl (stepA.grew hBs ((Grew.refl _).alloc _)) (own_one _ _ hBs _)
            · intro y w2 hG hI hD K hK
              clear hI
              have hBs : B ≤ w2.heap.size := Nat.le_trans HBB.out hG.size
              simp only [depsT, List.getD_cons_zero, List.getD_cons_succ, and_true] at hD
              have h0 := hD.1
              have h1 := hD.2.1
              have h2 := hD.2.2.1
              have h3 := hD.2.2.2.1
              have h4 := hD.2.2.2.2.1
              have h5 := hD.2.2.2.2.2.1
              have h6 := hD.2.2.2.2.2.2
              clear hD
              simp only [fillL, Act.put, List.setIfInBounds_toArray, List.set_cons_zero, List.set_cons_succ, List.getD_cons_zero, List.getD_cons_succ] at hK ⊢
              simp only [h0, h1, h2, h3, h5] at hK ⊢
              clear h0 h1 h2 h3 h5
              refine ite_yes (by rfl) ?_
              refine wp_append_keep _ _ rfl B (y 4) L1 rfl h4.1 (y 6) [(X.length : Int)] rfl h6.row (by have := HLL.out; simp; omega) hBs h4.2 ?_
              intro v' w' ho hk _
              exact hK _ _ _ rfl ⟨hk.1, .inl ⟨rfl, by rw [← HLL.out.1]; exact hk⟩⟩ ho
            · intro y w2 hG hI hD K hK
              clear hI
              have hBs : B ≤ w2.heap.size := Nat.le_trans HBB.out hG.size
              simp only [fillL, Act.put, List.setIfInBounds_toArray, List.set_cons_zero, List.set_cons_succ, List.getD_cons_zero, List.getD_cons_succ] at hK ⊢
              refine ite_yes (by rfl) ?_
              go_simp
              exact hK _ _ _ rfl (stepA.refl _ _) rfl
            · intro y w2 hG hI hD K hK
              clear hI
              have hBs : B ≤ w2.heap.size := Nat.le_trans HBB.out hG.size
              simp only [fillL, Act.put, List.setIfInBounds_toArray, List.set_cons_zero, List.set_cons_succ, List.getD_cons_zero, List.getD_cons_succ] at hK ⊢
              refine ite_yes (by rfl) ?_
              go_simp
              exact hK _ _ _ rfl (stepA.refl _ _) rfl
            · intro y w2 hG hI hD K hK
              clear hI
              have hBs : B ≤ w2.heap.size := Nat.le_trans HBB.out hG.size
              simp only [depsT, List.getD_cons_zero, List.getD_cons_succ, and_true] at hD
              have h8 := hD.1
              have h9 := hD.2
              clear hD
              simp only [fillL, Act.put, List.setIfInBounds_toArray, List.set_cons_zero, List.set_cons_succ, List.getD_cons_zero, List.getD_cons_succ] at hK ⊢
              simp only [h8, h9] at hK ⊢
              clear h8 h9
              refine ite_yes (by rfl) ?_
              go_simp
              exact hK _ _ _ rfl (stepA.refl _ _) rfl
            · intro y w2 hG hI hD K hK
              clear hI
              have hBs : B ≤ w2.heap.size := Nat.le_trans HBB.out hG.size
              simp only [depsT, List.getD_cons_zero, List.getD_cons_succ, and_true] at hD
              have h0 := hD.1
              have h1 := hD.2.1
              have h2 := hD.2.2.1
              have h3 := hD.2.2.2.1
              have h4 := hD.2.2.2.2.1
              have h5 := hD.2.2.2.2.2.1
              have h6 := hD.2.2.2.2.2.2.1
              have h7 := hD.2.2.2.2.2.2.2.1
              have h8 := hD.2.2.2.2.2.2.2.2.1
              have h9 := hD.2.2.2.2.2.2.2.2.2.1
              have h10 := hD.2.2.2.2.2.2.2.2.2.2
              clear hD
              simp only [fillL, Act.put, List.setIfInBounds_toArray, List.set_cons_zero, List.set_cons_succ, List.getD_cons_zero, List.getD_cons_succ] at hK ⊢
              simp only [h0, h1, h2, h3, h5, h8, h9, h10] at hK ⊢
              clear h0 h1 h2 h3 h5 h8 h9 h10
              refine ite_yes (by rfl) ?_
              refine wp_append_keep _ _ rfl B (y 7) (L1 ++ [(X.length : Int)]) rfl h7 (.slice none (X.length - k) (oc - k)) L2 rfl (HROW2.out _ hG) (by have := HLL.out; simp; omega) hBs (fun h => by simp at h) ?_
              intro v' w' ho hk _
              refine hK _ _ _ rfl ⟨hk.1, .inr (.inl ⟨rfl, ?_⟩)⟩ ho
              have e : max (L1 ++ [(X.length : Int)]).length 1 = k + 1 := by have := HLL.out.1; simp; omega
              rw [e] at hk; exact hk
            · intro y w2 hG hI hD K hK
              clear hI
              have hBs : B ≤ w2.heap.size := Nat.le_trans HBB.out hG.size
              simp only [depsT, List.getD_cons_zero, List.getD_cons_succ, and_true] at hD
              have h0 := hD.1
              have h1 := hD.2.1
              have h2 := hD.2.2.1
              have h3 := hD.2.2.2.1
              have h4 := hD.2.2.2.2.1
              have h5 := hD.2.2.2.2.2.1
              have h6 := hD.2.2.2.2.2.2.1
              have h7 := hD.2.2.2.2.2.2.2.1
              have h8 := hD.2.2.2.2.2.2.2.2.1
              have h9 := hD.2.2.2.2.2.2.2.2.2.1
              have h10 := hD.2.2.2.2.2.2.2.2.2.2.1
              have h11 := hD.2.2.2.2.2.2.2.2.2.2.2
              clear hD
              simp only [fillL, Act.put, List.setIfInBounds_toArray, List.set_cons_zero, List.set_cons_succ, List.getD_cons_zero, List.getD_cons_succ] at hK ⊢
              simp only [h0, h1, h2, h3, h5, h8, h9, h10] at hK ⊢
              clear h0 h1 h2 h3 h5 h8 h9 h10
              refine ite_yes (by rfl) ?_
              go_simp
              exact hK _ _ _ rfl (stepA.refl _ _) h11
            · intro y w2 hG hF
              simp only [factsT, and_true, Nat.reduceAdd] at hF
              have h0 := hF.1
              have h1 := hF.2.1
              have h2 := hF.2.2.1
              have h3 := hF.2.2.2.1
              have h4 := hF.2.2.2.2.1
              have h5 := hF.2.2.2.2.2.1
              have h6 := hF.2.2.2.2.2.2.1
              have h7 := hF.2.2.2.2.2.2.2.1
              have h8 := hF.2.2.2.2.2.2.2.2.1
              have h9 := hF.2.2.2.2.2.2.2.2.2.1
              have h10 := hF.2.2.2.2.2.2.2.2.2.2.1
              have h11 := hF.2.2.2.2.2.2.2.2.2.2.2.1
              have h12 := hF.2.2.2.2.2.2.2.2.2.2.2.2
              clear hF
              simp only [fillL, Act.put, List.setIfInBounds_toArray, List.set_cons_zero, List.set_cons_succ, List.getD_cons_zero, List.getD_cons_succ]
              simp only [h0, h1, h2, h3, h5, h8, h9, h10]
              clear h0 h1 h2 h3 h5 h8 h9 h10
              obtain ⟨a12, c12, e12, _⟩ := rows_form h12
              rw [e12] at h12 ⊢
              have HF : Hid (Grew w w2 ∧ OwnI w2 w.heap.size (.slice a12 (L1 ++ [(X.length : Int)] ++ L2).length c12) (ints X')) := by
                have hgv := HGV.out
                have hb := HBV.out
                subst hb
                refine ⟨hgv.trans hG, ?_⟩
                have := rows_base h12 hgv.size
                unfold OwnI
                rw [← HLX.out]; exact this
              clear h4 h6 h7 h11 h12 hG e12
              go_wp2_with fail
              go_roundw
              case rel =>
                refine ⟨X', by have := HXL.out; omega, by rw [HXL.out]; go_num, ?_⟩
                have h1 := HORD.out
                rw [← HXL.out] at h1
                exact ⟨h1, HF.out⟩
              case measure => simp [intOf]; omega
          · obtain ⟨br, hbr⟩ : ∃ br, ad = ⟨br, 0, none⟩ := by
              rcases HOW.out.2 with ⟨e, _⟩ | ⟨g, cap, cur, e, _⟩
              · rw [hoa] at e; injection e with e; cases e
              · rw [hoa] at e; injection e with e; injection e with e; exact ⟨g, e⟩
            subst hbr
            subst hoa
            generalize nq = n2
            have HGV : Hid (Grew w ((wr.drewN n1).drewN n2)) := (HGD2.out.drewN _).drewN _
            have HOV : Hid (OwnI ((wr.drewN n1).drewN n2) w.heap.size (.slice (some ⟨br, 0, none⟩) X.length oc) (ints X)) := rows_grew HOW.out (((HGD.out.drewN n1).drewN n2))
            generalize ((wr.drewN n1).drewN n2) = wv at *
            obtain ⟨B, hB⟩ : ∃ B, wv.heap.size = B := ⟨_, rfl⟩
            have HBB : Hid (B ≤ wv.heap.size) := Nat.le_of_eq hB.symm
            have HDREW : Hid (Below B wv wv.drew) := by subst hB; exact (Grew.refl wv).drew
            obtain ⟨L1, hL1⟩ : ∃ L, (ints X).take k = L := ⟨_, rfl⟩
            obtain ⟨L2, hL2⟩ : ∃ L, (ints X).drop k = L := ⟨_, rfl⟩
            have HLL : Hid (L1.length = k ∧ k + L2.length ≤ 4096) := by
              show _ ∧ _
              rw [← hL1, ← hL2, List.length_take, List.length_drop, List.length_map]; omega
            have HLX : Hid (L1 ++ [(X.length : Int)] ++ L2 = ints (X.take k ++ [X.length] ++ X.drop k)) := by
              show _ = _
              rw [← hL1, ← hL2]; simp [ints, List.map_take, List.map_drop]
            have hrw : RowI wv (.slice (some ⟨br, 0, none⟩) (ints X).length oc) (ints X) := by rw [List.length_map]; exact HOV.out.row
            have HROW1 : Hid (∀ w', Below B wv w' → RowI w' (.slice (some ⟨br, 0, none⟩) k oc) L1) := by
              intro w' hb
              subst hB
              rw [← hL1]
              exact (RowI.take hrw (by rw [List.length_map]; omega)).below hb
            have HROW2 : Hid (∀ w', Below B wv w' → RowI w' (.slice (if oc = k then some ⟨br, 0, none⟩ else some ⟨br, k, none⟩) (X.length - k) (oc - k)) L2) := by
              intro w' hb
              subst hB
              rw [← hL2]
              have := (RowI.drop' hrw (k := k) (by rw [List.length_map]; omega)).below hb
              rwa [List.length_map] at this
            clear hrw
            have HORD : Hid (OrdI l (X.length + 1) (X.take k ++ [X.length] ++ X.drop k)) := by
              have hks := keyAt_get HSX.out.1
              refine HW.out.1.insert k (by omega) (fun y hy => by rw [hks]; exact HV.out y hy) (fun y hy => ?_)
              rw [hks]
              rw [List.getElem?_eq_none (by have := HKE.out; omega)] at hy
              cases hy
            obtain ⟨X', hX'⟩ : ∃ X', X.take k ++ [X.length] ++ X.drop k = X' := ⟨_, rfl⟩
            rw [hX'] at HORD HLX
            have HXL : Hid (X'.length = X.length + 1) := HORD.out.len
            have HBV : Hid (wv.heap.size = B) := hB
            have hkoc : k ≤ oc := by omega
            clear hL1 hL2 hB hX' d0
            refine wp_region_tablesD (Below B) 0 (fun _ => True) (stepA B k) [[], [], [], [1, 2], [0, 1, 2, 3], [], [5], [0, 1, 2, 3, 4, 5, 6], [], [], [8, 9], [0, 1, 2, 3, 4, 5, 6, 7, 8, 9, 10], [0, 1, 2, 3, 4, 5, 6, 7, 8, 9, 10, 11]] [[(53, 1), (54, 2), (55, 3), (57, 5), (58, 6), (60, 8), (61, 9), (62, 10)], [(52, 0), (54, 2), (57, 5), (58, 6), (60, 8), (61, 9), (62, 10)], [(52, 0), (53, 1), (57, 5), (58, 6), (60, 8), (61, 9), (62, 10)], [(52, 0), (53, 1), (54, 2), (57, 5), (58, 6), (60, 8), (61, 9), (62, 10)], [(52, 0), (53, 1), (54, 2), (55, 3), (57, 5), (58, 6), (60, 8), (61, 9), (62, 10)], [(52, 0), (53, 1), (54, 2), (55, 3), (56, 4), (60, 8), (61, 9), (62, 10)], [(52, 0), (53, 1), (54, 2), (55, 3), (56, 4), (57, 5), (60, 8), (61, 9), (62, 10)], [(52, 0), (53, 1), (54, 2), (55, 3), (56, 4), (57, 5), (58, 6), (60, 8), (61, 9), (62, 10)], [(52, 0), (53, 1), (54, 2), (55, 3), (56, 4), (57, 5), (58, 6), (59, 7), (61, 9)], [(52, 0), (53, 1), (54, 2), (55, 3), (56, 4), (57, 5), (58, 6), (59, 7), (60, 8)], [(52, 0), (53, 1), (54, 2), (55, 3), (56, 4), (57, 5), (58, 6), (59, 7), (60, 8), (61, 9)], [(52, 0), (53, 1), (54, 2), (55, 3), (56, 4), (57, 5), (58, 6), (59, 7), (60, 8), (61, 9), (62, 10)], [(52, 0), (53, 1), (54, 2), (55, 3), (56, 4), (57, 5), (58, 6), (59, 7), (60, 8), (61, 9), (62, 10), (63, 11)]] [(52, 0), (53, 1), (54, 2), (55, 3), (56, 4), (57, 5), (58, 6), (59, 7), (60, 8), (61, 9), (62, 10), (63, 11), (4, 12)]
              [fun y v w => v = .slice none 0 0, fun y v w => v = .slice (some ⟨br, 0, none⟩) X.length oc, fun y v w => v = .int .i64 k, fun y v w => v = .slice (some ⟨br, 0, none⟩) k oc, fun y v w => OwnI w B v L1 ∧ (L1.length = 0 → v = .slice none 0 0), fun y v w => v = .int .i64 X.length, fun y v w => OwnI w B v [(X.length : Int)], fun y v w => OwnI w B v (L1 ++ [(X.length : Int)]), fun y v w => v = .slice (some ⟨br, 0, none⟩) X.length oc, fun y v w => v = .int .i64 k, fun y v w => v = .slice (if oc = k then some ⟨br, 0, none⟩ else some ⟨br, k, none⟩) (X.length - k) (oc - k), fun y v w => OwnI w B v (L1 ++ [(X.length : Int)] ++ L2), fun y v w => OwnI w B v (L1 ++ [(X.length : Int)] ++ L2)]
              (by kernel_rfl) (fun h k => Below.trans h k) (Below.refl _) stepA.below stepA.refl (fun _ _ _ _ _ h => h) trivial HDREW.out (by kernel_rfl)
              ⟨fun i hi hnd y v w w' ht h => h, fun i hi hnd y v w w' ht h => h, fun i hi hnd y v w w' ht h => h, fun i hi hnd y v w w' ht h => h, fun i hi hnd y v w w' ht h => ⟨h.1.step ht (fun _ => by have := HLL.out.1; omega) (fun _ => by have := HLL.out.1; omega), h.2⟩, fun i hi hnd y v w w' ht h => h, fun i hi hnd y v w w' ht h => h.step ht (fun _ => by simp; omega) (fun _ => by simp), fun i hi hnd y v w w' ht h => h.step ht (fun e => absurd e hi) (fun _ => by have := HLL.out.1; simp; omega), fun i hi hnd y v w w' ht h => h, fun i hi hnd y v w w' ht h => h, fun i hi hnd y v w w' ht h => h, fun i hi hnd y v w w' ht h => h.step ht (fun e => by subst e; exact absurd hnd (by decide)) (fun e => absurd e hi), fun i hi hnd y v w w' ht h => h.step ht (fun e => by subst e; exact absurd hnd (by decide)) (fun e => by subst e; exact absurd hnd (by decide)), trivial⟩
              ⟨fun _ _ _ _ _ h => h, fun _ _ _ _ _ h => h, fun _ _ _ _ _ h => h, fun _ _ _ _ _ h => h, fun _ _ _ _ _ h => h, fun _ _ _ _ _ h => h, fun _ _ _ _ _ h => h, fun _ _ _ _ _ h => h, fun _ _ _ _ _ h => h, fun _ _ _ _ _ h => h, fun _ _ _ _ _ h => h, fun _ _ _ _ _ h => h, fun _ _ _ _ _ h => h, trivial⟩
              ⟨?_, ?_, ?_, ?_, ?_, ?_, ?_, ?_, ?_, ?_, ?_, ?_, ?_, trivial⟩ rfl ?_
            · intro y w2 hG hI hD K hK
              clear hI
              have hBs : B ≤ w2.heap.size := Nat.le_trans HBB.out hG.size
              simp only [fillL, Act.put, List.setIfInBounds_toArray, List.set_cons_zero, List.set_cons_succ, List.getD_cons_zero, List.getD_cons_succ] at hK ⊢
              refine ite_yes (by rfl) ?_
              go_simp
              exact hK _ _ _ rfl (stepA.refl _ _) rfl
            · intro y w2 hG hI hD K hK
              clear hI
              have hBs : B ≤ w2.heap.size := Nat.le_trans HBB.out hG.size
              simp only [fillL, Act.put, List.setIfInBounds_toArray, List.set_cons_zero, List.set_cons_succ, List.getD_cons_zero, List.getD_cons_succ] at hK ⊢
              refine ite_yes (by rfl) ?_
              go_simp
              exact hK _ _ _ rfl (stepA.refl _ _) rfl
            · intro y w2 hG hI hD K hK
              clear hI
              have hBs : B ≤ w2.heap.size := Nat.le_trans HBB.out hG.size
              simp only [fillL, Act.put, List.setIfInBounds_toArray, List.set_cons_zero, List.set_cons_succ, List.getD_cons_zero, List.getD_cons_succ] at hK ⊢
              refine ite_yes (by rfl) ?_
              go_simp
              exact hK _ _ _ rfl (stepA.refl _ _) rfl
            · intro y w2 hG hI hD K hK
              clear hI
              have hBs : B ≤ w2.heap.size := Nat.le_trans HBB.out hG.size
              simp only [depsT, List.getD_cons_zero, List.getD_cons_succ, and_true] at hD
              have h1 := hD.1
              have h2 := hD.2
              clear hD
              simp only [fillL, Act.put, List.setIfInBounds_toArray, List.set_cons_zero, List.set_cons_succ, List.getD_cons_zero, List.getD_cons_succ] at hK ⊢
              simp only [h1, h2] at hK ⊢
              clear h1 h2
              refine ite_yes (by rfl) ?_
              go_simp
              exact hK _ _ _ rfl (stepA.refl _ _) rfl
            · intro y w2 hG hI hD K hK
              clear hI
              have hBs : B ≤ w2.heap.size := Nat.le_trans HBB.out hG.size
              simp only [depsT, List.getD_cons_zero, List.getD_cons_succ, and_true] at hD
              have h0 := hD.1
              have h1 := hD.2.1
              have h2 := hD.2.2.1
              have h3 := hD.2.2.2
              clear hD
              simp only [fillL, Act.put, List.setIfInBounds_toArray, List.set_cons_zero, List.set_cons_succ, List.getD_cons_zero, List.getD_cons_succ] at hK ⊢
              simp only [h0, h1, h2, h3] at hK ⊢
              clear h0 h1 h2 h3
              refine ite_yes (by rfl) ?_
              refine wp_append_keep _ _ rfl B (.slice none 0 0) [] rfl (OwnI.nil _ _) (.slice (some ⟨br, 0, none⟩) k oc) L1 rfl (HROW1.out _ hG) (by have := HLL.out; simp; omega) hBs (fun _ => rfl) ?_
              intro v' w' ho hk h0
              exact hK _ _ _ rfl ⟨hk.1, .inr (.inr (h0.2 rfl))⟩ ⟨by simpa using ho, fun h => h0.1 (by simpa using h)⟩
            · intro y w2 hG hI hD K hK
              clear hI
              have hBs : B ≤ w2.heap.size := Nat.le_trans HBB.out hG.size
              simp only [fillL, Act.put, List.setIfInBounds_toArray, List.set_cons_zero, List.set_cons_succ, List.getD_cons_zero, List.getD_cons_succ] at hK ⊢
              refine ite_yes (by rfl) ?_
              go_simp
              exact hK _ _ _ rfl (stepA.refl _ _) rfl
            · intro y w2 hG hI hD K hK
              clear hI
              have hBs : B ≤ w2.heap.size := Nat.le_trans HBB.out hG.size
              simp only [depsT, List.getD_cons_zero, List.getD_cons_succ, and_true] at hD
              have h5 := hD
              clear hD
              simp only [fillL, Act.put, List.setIfInBounds_toArray, List.set_cons_zero, List.set_cons_succ, List.getD_cons_zero, List.getD_cons_succ] at hK ⊢
              simp only [h5] at hK ⊢
              clear h5
              refine ite_yes (by rfl) ?_
              go_simp
              exact hK _ _ _ rfl (stepA.grew hBs ((Grew.refl _).alloc _)) (own_one _ _ hBs _)
            · intro y w2 hG hI hD K hK
              clear hI
              have hBs : B ≤ w2.heap.size := Nat.le_trans HBB.out hG.size
              simp only [depsT, List.getD_cons_zero, List.getD_cons_succ, and_true] at hD
              have h0 := hD.1
              have h1 := hD.2.1
              have h2 := hD.2.2.1
              have h3 := hD.2.2.2.1
              have h4 := hD.2.2.2.2.1
              have h5 := hD.2.2.2.2.2.1
              have h6 := hD.2.2.2.2.2.2
              clear hD
              simp only [fillL, Act.put, List.setIfInBounds_toArray, List.set_cons_zero, List.set_cons_succ, List.getD_cons_zero, List.getD_cons_succ] at hK ⊢
              simp only [h0, h1, h2, h3, h5] at hK ⊢
              clear h0 h1 h2 h3 h5
              refine ite_yes (by rfl) ?_
              refine wp_append_keep _ _ rfl B (y 4) L1 rfl h4.1 (y 6) [(X.length : Int)] rfl h6.row (by have := HLL.out; simp; omega) hBs h4.2 ?_
              intro v' w' ho hk _
              exact hK _ _ _ rfl ⟨hk.1, .inl ⟨rfl, by rw [← HLL.out.1]; exact hk⟩⟩ ho
            · intro y w2 hG hI hD K hK
              clear hI
              have hBs : B ≤ w2.heap.size := Nat.le_trans HBB.out hG.size
              simp only [fillL, Act.put, List.setIfInBounds_toArray, List.set_cons_zero, List.set_cons_succ, List.getD_cons_zero, List.getD_cons_succ] at hK ⊢
              refine ite_yes (by rfl) ?_
              go_simp
              exact hK _ _ _ rfl (stepA.refl _ _) rfl
            · intro y w2 hG hI hD K hK
              clear hI
              have hBs : B ≤ w2.heap.size := Nat.le_trans HBB.out hG.size
              simp only [fillL, Act.put, List.setIfInBounds_toArray, List.set_cons_zero, List.set_cons_succ, List.getD_cons_zero, List.getD_cons_succ] at hK ⊢
              refine ite_yes (by rfl) ?_
              go_simp
              exact hK _ _ _ rfl (stepA.refl _ _) rfl
            · intro y w2 hG hI hD K hK
              clear hI
              have hBs : B ≤ w2.heap.size := Nat.le_trans HBB.out hG.size
              simp only [depsT, List.getD_cons_zero, List.getD_cons_succ, and_true] at hD
              have h8 := hD.1
              have h9 := hD.2
              clear hD
              simp only [fillL, Act.put, List.setIfInBounds_toArray, List.set_cons_zero, List.set_cons_succ, List.getD_cons_zero, List.getD_cons_succ] at hK ⊢
              simp only [h8, h9] at hK ⊢
              clear h8 h9
              refine ite_yes (by rfl) ?_
              go_simp
              exact hK _ _ _ rfl (stepA.refl _ _) rfl
            · intro y w2 hG hI hD K hK
              clear hI
              have hBs : B ≤ w2.heap.size := Nat.le_trans HBB.out hG.size
              simp only [depsT, List.getD_cons_zero, List.getD_cons_succ, and_true] at hD
              have h0 := hD.1
              have h1 := hD.2.1
              have h2 := hD.2.2.1
              have h3 := hD.2.2.2.1
              have h4 := hD.2.2.2.2.1
              have h5 := hD.2.2.2.2.2.1
              have h6 := hD.2.2.2.2.2.2.1
              have h7 := hD.2.2.2.2.2.2.2.1
              have h8 := hD.2.2.2.2.2.2.2.2.1
              have h9 := hD.2.2.2.2.2.2.2.2.2.1
              have h10 := hD.2.2.2.2.2.2.2.2.2.2
              clear hD
              simp only [fillL, Act.put, List.setIfInBounds_toArray, List.set_cons_zero, List.set_cons_succ, List.getD_cons_zero, List.getD_cons_succ] at hK ⊢
              simp only [h0, h1, h2, h3, h5, h8, h9, h10] at hK ⊢
              clear h0 h1 h2 h3 h5 h8 h9 h10
              refine ite_yes (by rfl) ?_
              refine wp_append_keep _ _ rfl B (y 7) (L1 ++ [(X.length : Int)]) rfl h7 (.slice (if oc = k then some ⟨br, 0, none⟩ else some ⟨br, k, none⟩) (X.length - k) (oc - k)) L2 rfl (HROW2.out _ hG) (by have := HLL.out; simp; omega) hBs (fun h => by simp at h) ?_
              intro v' w' ho hk _
              refine hK _ _ _ rfl ⟨hk.1, .inr (.inl ⟨rfl, ?_⟩)⟩ ho
              have e : max (L1 ++ [(X.length : Int)]).length 1 = k + 1 := by have := HLL.out.1; simp; omega
              rw [e] at hk; exact hk
            · intro y w2 hG hI hD K hK
              clear hI
              have hBs : B ≤ w2.heap.size := Nat.le_trans HBB.out hG.size
              simp only [depsT, List.getD_cons_zero, List.getD_cons_succ, and_true] at hD
              have h0 := hD.1
              have h1 := hD.2.1
              have h2 := hD.2.2.1
              have h3 := hD.2.2.2.1
              have h4 := hD.2.2.2.2.1
              have h5 := hD.2.2.2.2.2.1
              have h6 := hD.2.2.2.2.2.2.1
              have h7 := hD.2.2.2.2.2.2.2.1
              have h8 := hD.2.2.2.2.2.2.2.2.1
              have h9 := hD.2.2.2.2.2.2.2.2.2.1
              have h10 := hD.2.2.2.2.2.2.2.2.2.2.1
              have h11 := hD.2.2.2.2.2.2.2.2.2.2.2
              clear hD
              simp only [fillL, Act.put, List.setIfInBounds_toArray, List.set_cons_zero, List.set_cons_succ, List.getD_cons_zero, List.getD_cons_succ] at hK ⊢
              simp only [h0, h1, h2, h3, h5, h8, h9, h10] at hK ⊢
              clear h0 h1 h2 h3 h5 h8 h9 h10
              refine ite_yes (by rfl) ?_
              go_simp
              exact hK _ _ _ rfl (stepA.refl _ _) h11
            · intro y w2 hG hF
              simp only [factsT, and_true, Nat.reduceAdd] at hF
              have h0 := hF.1
              have h1 := hF.2.1
              have h2 := hF.2.2.1
              have h3 := hF.2.2.2.1
              have h4 := hF.2.2.2.2.1
              have h5 := hF.2.2.2.2.2.1
              have h6 := hF.2.2.2.2.2.2.1
              have h7 := hF.2.2.2.2.2.2.2.1
              have h8 := hF.2.2.2.2.2.2.2.2.1
              have h9 := hF.2.2.2.2.2.2.2.2.2.1
              have h10 := hF.2.2.2.2.2.2.2.2.2.2.1
              have h11 := hF.2.2.2.2.2.2.2.2.2.2.2.1
              have h12 := hF.2.2.2.2.2.2.2.2.2.2.2.2
              clear hF
              simp only [fillL, Act.put, List.setIfInBounds_toArray, List.set_cons_zero, List.set_cons_succ, List.getD_cons_zero, List.getD_cons_succ]
              simp only [h0, h1, h2, h3, h5, h8, h9, h10]
              clear h0 h1 h2 h3 h5 h8 h9 h10
              obtain ⟨a12, c12, e12, _⟩ := rows_form h12
              rw [e12] at h12 ⊢
              have HF : Hid (Grew w w2 ∧ OwnI w2 w.heap.size (.slice a12 (L1 ++ [(X.length : Int)] ++ L2).length c12) (ints X')) := by
                have hgv := HGV.out
                have hb := HBV.out
                subst hb
                refine ⟨hgv.trans hG, ?_⟩
                have := rows_base h12 hgv.size
                unfold OwnI
                rw [← HLX.out]; exact this
              clear h4 h6 h7 h11 h12 hG e12
              go_wp2_with fail
              go_roundw
              case rel =>
                refine ⟨X', by have := HXL.out; omega, by rw [HXL.out]; go_num, ?_⟩
                have h1 := HORD.out
                rw [← HXL.out] at h1
                exact ⟨h1, HF.out⟩
              case measure => simp [intOf]; omega
    · have hXl : X.length = l.length := by omega
      have hd := OrdI.done (l := l) (X := X) (by rw [← hXl]; exact HW.out.1)
      have HD := Lib.hid hd.2
      have HOW2 := Lib.hid HOW.out.row
      have hnl : ¬ (X.length : Int) < l.length := by omega
      clear hXl hd
      go_wp2_with fail
      go_ret2
      exact ⟨HW.out.2.1, .slice oa X.length oc, by rw [HD.out]; rfl, by rw [HD.out]; exact HOW2.out⟩
end Go.Proofs.Ytfbeepkogcmlmaa

/-
  Normal forms, the reference: sorted. Conditions: the tree lies in memory and is valid.
-/
namespace Go.Proofs.Ytfbeepkogcmlmaa
open Go Go.ChangeShapes Go.WideShapes Go.ChangeAt Go.RowKit Go.Joins Go.Deep
set_option linter.unusedVariables false
set_option linter.unusedSimpArgs false

/-- The keys in order, each with its place. -/
def placedK (keys : List ByteArray) : List (ByteArray × Nat) := sortP (keys.zip (List.range keys.length))
theorem placed_get {keys : List ByteArray} {p : ByteArray × Nat} (h : p ∈ placedK keys) : keys[p.2]? = some p.1 := by
  have h2 := (sortP_perm _).mem_iff.1 h
  obtain ⟨i, hi⟩ := List.getElem?_of_mem h2
  rw [List.getElem?_zip_eq_some] at hi
  obtain ⟨h3, h4⟩ := hi
  rw [List.getElem?_range (by have := (List.getElem?_eq_some_iff.1 h3).1; omega)] at h4
  injection h4 with h4
  rw [← h4]; exact h3
theorem placed_len (keys : List ByteArray) : (placedK keys).length = keys.length := by
  unfold placedK
  rw [(sortP_perm _).length_eq]
  simp
theorem ordK_placed {keys : List ByteArray} (h : keys.Nodup) : ordK keys = ((placedK keys).map fun p => (p.2 : Int), 0) := by
  unfold ordK
  rw [if_pos h]; rfl
theorem sortT_placed {n u : Int} {s : ByteArray} {keys : List ByteArray} {l : List Tr} (h : keys.length = l.length) (z : Tr) :
    sortT (.mk 17 n u s keys l) = .mk 17 n u s ((placedK keys).map Prod.fst) ((placedK keys).map fun p => sortT (l.getD p.2 z)) := by
  have h1 := sortP_map (fun i => sortT (l.getD i z)) (keys.zip (List.range keys.length))
  have h2 : (keys.zip (List.range keys.length)).map (fun p => (p.1, sortT (l.getD p.2 z))) = keys.zip (sortL l) := by
    rw [sortL_map]
    apply List.ext_getElem?
    intro i
    rw [List.getElem?_map]
    cases hk : keys[i]? with
    | none =>
      have e1 : (keys.zip (List.range keys.length))[i]? = none := by
        rw [List.getElem?_eq_none_iff] at hk ⊢
        simp; omega
      have e2 : (keys.zip (l.map sortT))[i]? = none := by
        rw [List.getElem?_eq_none_iff] at hk ⊢
        simp; omega
      rw [e1, e2]; rfl
    | some q =>
      have hi := (List.getElem?_eq_some_iff.1 hk).1
      have e1 : (keys.zip (List.range keys.length))[i]? = some (q, i) := by
        rw [List.getElem?_zip_eq_some]
        exact ⟨hk, by rw [List.getElem?_range hi]⟩
      have hl : l[i]? = some (l[i]'(by omega)) := List.getElem?_eq_getElem (by omega)
      have e2 : (keys.zip (l.map sortT))[i]? = some (q, sortT (l[i]'(by omega))) := by
        rw [List.getElem?_zip_eq_some]
        exact ⟨hk, by rw [List.getElem?_map, hl]; rfl⟩
      rw [e1, e2]
      simp [List.getD_eq_getElem?_getD, hl]
  rw [h2] at h1
  rw [sortT, if_pos rfl, ← h1]
  unfold placedK
  simp [List.map_map, Function.comp_def]
/-- A child is appended, behind quiet steps. -/
theorem two_kid2 {W w w4 w5 w6 : World} {kv lv lv' xv : Value} {ks : List ByteArray} {ts : List Tr} {x : Tr} (h0 : Grew W w) (h1 : OwnS w W.heap.size kv ks) (h2 : ∀ g, kv.ownBlock = some g → lv.ownBlock ≠ some g) (vs : List Value) (S : Nat → Prop) (h3 : OwnN w W.heap.size lv vs) (h4 : KidsO w W.heap.size ts vs S)
    (h5 : ∀ g, S g → W.heap.size ≤ g ∧ g < w.heap.size ∧ lv.ownBlock ≠ some g ∧ kv.ownBlock ≠ some g) (hx : OwnT w4 w.heap.size x xv (Fresh w w4)) (hg4 : Grew w w4) (hga : Grew w4 w5) (hown : OwnN w6 W.heap.size lv' (vs ++ [xv])) (hgr : w5.grownBy w6 lv.ownBlock) (hn : Next w5 lv.ownBlock lv'.ownBlock) : TwoR W w6 kv lv' ks (ts ++ [x]) := by
  have hm : Moved (fun k => some k = lv.ownBlock) w5 w6 := Moved.of_grown hgr
  have hs0 := h0.size
  have hs1 := hg4.size
  have hs2 := hga.size
  have hs3 := hm.size
  have hlt : ∀ g, lv.ownBlock = some g → W.heap.size ≤ g ∧ g < w.heap.size := fun g hg => World.ownsRow.lt h3.1 g hg
  have hkt : ∀ g, kv.ownBlock = some g → W.heap.size ≤ g ∧ g < w.heap.size := fun g hg => World.ownsRow.lt h1 g hg
  have k1 : KidsO w6 W.heap.size ts vs S := ((h4.grew hg4).grew hga).kept hm (fun g hS e => (h5 g hS).2.2.1 e.symm)
  have k2 : OwnT w6 W.heap.size x xv (Fresh w w4) := ((hx.grew hga).kept hm (fun g hS e => by have := hlt g e.symm; have := hS.1; omega)).base hs0
  refine ⟨Moved.fresh ((h0.trans hg4).trans hga) hm (fun g e => (hlt g e.symm).1), Moved.owns hm ((h1.grew' hg4).grew' hga) (fun g hg e => h2 g hg e.symm), fun g hg hl => ?_, vs ++ [xv], fun g => S g ∨ Fresh w w4 g, hown, k1.app (KidsO.one k2) (fun g hS hF => by have := (h5 g hS).2.1; have := hF.1; omega), fun g hS => ?_⟩
  · rcases hn g hl with e | e
    · exact h2 g hg e
    · have := (hkt g hg).2; omega
  · have hb : W.heap.size ≤ g ∧ g < w4.heap.size := by
      rcases hS with hS | hS
      · have := h5 g hS; omega
      · exact ⟨Nat.le_trans hs0 hS.1, hS.2⟩
    refine ⟨hb.1, by omega, fun e => ?_, fun e => ?_⟩
    · rcases hn g e with e | e
      · rcases hS with hS | hS
        · exact (h5 g hS).2.2.1 e
        · have := hlt g e; have := hS.1; omega
      · omega
    · rcases hS with hS | hS
      · exact (h5 g hS).2.2.2 e
      · have := hkt g e; have := hS.1; omega
/-- A child made, and the slice of one that holds it. -/
def KidA (w0 : World) (x : Tr) (v : Value) (w : World) : Prop := ∃ wa, Grew w0 wa ∧ OwnT w wa.heap.size x v (Fresh wa w) ∧ Grew wa w
def KidB (w0 : World) (x : Tr) (v : Value) (w : World) : Prop := ∃ wa yv g, Grew w0 wa ∧ OwnT w wa.heap.size x yv (Fresh wa w) ∧ Grew wa w ∧ v = .slice (some ⟨g, 0, none⟩) 1 1 ∧ w.heap[g]? = some (rowN yv)
theorem KidA.st (w0 : World) (x : Tr) : ∀ v w w', Grew w w' → KidA w0 x v w → KidA w0 x v w' := fun v w w' hg ⟨wa, h1, h2, h3⟩ => ⟨wa, h1, (h2.grew hg).mono (fun g hh => ⟨hh.1, Nat.lt_of_lt_of_le hh.2 hg.size⟩), h3.trans hg⟩
theorem KidB.st (w0 : World) (x : Tr) : ∀ v w w', Grew w w' → KidB w0 x v w → KidB w0 x v w' := fun v w w' hg ⟨wa, yv, g, h1, h2, h3, h4, h5⟩ => ⟨wa, yv, g, h1, (h2.grew hg).mono (fun g hh => ⟨hh.1, Nat.lt_of_lt_of_le hh.2 hg.size⟩), h3.trans hg, h4, hg.heap h5⟩
set_option maxRecDepth 100000 in
set_option maxHeartbeats 4000000 in
theorem rsort_any : ∀ (m : Nat) (t : Tr), t.size ≤ m → ∀ (b : Nat), valT b t → t.size ≤ 4096 → ∀ (v : Value) (w : World), NodeAt w t v → Calls Try.prog 50 #[v] w fun r w' => ∃ v', r = .returned v' ∧ OwnT w' w.heap.size (sortT t) v' (Fresh w w') ∧ Grew w w' := by
  intro m
  induction m with
  | zero => intro t ht; have := t.size_pos; omega
  | succ m ih =>
    intro t hm b hv hfew v w hn
    obtain ⟨k, n, u, s, keys, l⟩ := t
    have hvf := val_fields hv
    have hvl := valL_iff.1 hv.2.2.2
    have HVL := Lib.hid hvl
    have hnd : keys.Nodup := (keysE_zero keys [] (by have := hv.2.2.1; rw [keyed_iff] at this; exact this.2)).1
    have HND := Lib.hid hnd
    obtain ⟨hb, kv, lv, vs, rfl, hks, hrl, hkd⟩ := hn
    have hkl := hkd.length
    have HKD := Lib.hid hkd
    have HKS := Lib.hid hks
    obtain ⟨a4, c4, rfl, hk1, hk2, hk3, hkz⟩ := hks
    have HRL := Lib.hid hrl
    obtain ⟨a5, c5, rfl, hl1, hl2, hl3, hl4⟩ := hrl
    rw [hkl] at HRL hl1 ⊢
    have hlen : l.length ≤ 4096 := by have := length_sizeL l; have := hfew; simp only [Tr.size] at this; omega
    have hlc : (l.length : Int) ≤ c5 := by omega
    have HSZ : Hid (∀ x ∈ l, x.size ≤ m ∧ x.size ≤ 4096) := fun x hx => by have := size_mem hx; simp only [Tr.size] at hm hfew; omega
    have HVF := Lib.hid hvf
    have HB := Lib.hid hb
    have HKZ : Hid (∀ q ∈ keys, lenok q.size) := fun q hq => by
        obtain ⟨i, hi⟩ := List.getElem?_of_mem hq
        exact (hkz i q hi).1
    clear hk1 hk2 hk3 hkz hl1 hl2 hl3 hl4 hkl hkd hv hvl hvf hb hm hfew hnd
    have hrt := heap_alloc_new w (.cells #[.int .i64 k, .int .i64 n, .int .u64 u, .string s, .slice a4 keys.length c4, .slice a5 l.length c5] 26)
    have hga := (Grew.refl w).alloc (.cells #[.int .i64 k, .int .i64 n, .int .u64 u, .string s, .slice a4 keys.length c4, .slice a5 l.length c5] 26)
    have hz1 : (w.alloc (.cells #[.int .i64 k, .int .i64 n, .int .u64 u, .string s, .slice a4 keys.length c4, .slice a5 l.length c5] 26)).heap.size = w.heap.size + 1 := World.size_alloc _ _
    go_enter Try.func50, Try.ntmps50
    go_upto_region 1 with fail
    obtain ⟨pr, hpr⟩ : ∃ N, w.heap.size = N := ⟨_, rfl⟩
    generalize (w.alloc (.cells #[.int .i64 k, .int .i64 n, .int .u64 u, .string s, .slice a4 keys.length c4, .slice a5 l.length c5] 26)) = x0 at *
    rw [hpr] at hrt hz1
    try rw [hpr]
    have HPR := Lib.hid hpr
    have hre := heap_alloc_new x0 (.cells #[.int .i64 0, .int .i64 0, .int .u64 0, .string ⟨#[]⟩, .slice none 0 0, .slice none 0 0] 26)
    have hgb := (Grew.refl x0).alloc (.cells #[.int .i64 0, .int .i64 0, .int .u64 0, .string ⟨#[]⟩, .slice none 0 0, .slice none 0 0] 26)
    have hz2 : (x0.alloc (.cells #[.int .i64 0, .int .i64 0, .int .u64 0, .string ⟨#[]⟩, .slice none 0 0, .slice none 0 0] 26)).heap.size = pr + 2 := by rw [World.size_alloc, hz1]
    rw [hz1] at hre
    generalize (x0.alloc (.cells #[.int .i64 0, .int .i64 0, .int .u64 0, .string ⟨#[]⟩, .slice none 0 0, .slice none 0 0] 26)) = xa at *
    try rw [hz1]
    replace hrt := hgb.heap hrt
    replace hga := hga.trans hgb
    clear hgb hz1
    have HRTA := Lib.hid hrt
    have d0 := row_cellT HRTA.out 0 _ rfl
    have d1 := row_cellT HRTA.out 1 _ rfl
    have d2 := row_cellT HRTA.out 2 _ rfl
    have d3 := row_cellT HRTA.out 3 _ rfl
    have d4 := row_cellT HRTA.out 4 _ rfl
    have d5 := row_cellT HRTA.out 5 _ rfl
    go_upto_region 2 with fail
    clear d0 d1 d2 d3 d4 d5 HRTA
    have hro := heap_alloc_new xa (.cells #[.int .i64 k, .int .i64 n, .int .u64 u, .string s, .slice none 0 0, .slice none 0 0] 26)
    have hgb := (Grew.refl xa).alloc (.cells #[.int .i64 k, .int .i64 n, .int .u64 u, .string s, .slice none 0 0, .slice none 0 0] 26)
    have hz3 : (xa.alloc (.cells #[.int .i64 k, .int .i64 n, .int .u64 u, .string s, .slice none 0 0, .slice none 0 0] 26)).heap.size = pr + 3 := by rw [World.size_alloc, hz2]
    rw [hz2] at hro
    generalize (xa.alloc (.cells #[.int .i64 k, .int .i64 n, .int .u64 u, .string s, .slice none 0 0, .slice none 0 0] 26)) = x1 at *
    try rw [hz2]
    have HRT := Lib.hid (hgb.heap hrt)
    have HRE := Lib.hid (hgb.heap hre)
    have HRO := Lib.hid hro
    have HG := Lib.hid (hga.trans hgb)
    have HZ2 : Hid (pr + 3 ≤ x1.heap.size) := Nat.le_of_eq hz3.symm
    clear hrt hro hre hga hgb hz2 hz3 hpr
    have d0 := row_cellT HRT.out 0 _ rfl
    have d1 := row_cellT HRT.out 1 _ rfl
    have d2 := row_cellT HRT.out 2 _ rfl
    have d3 := row_cellT HRT.out 3 _ rfl
    have d4 := row_cellT HRT.out 4 _ rfl
    have d5 := row_cellT HRT.out 5 _ rfl
    by_cases hk17 : k = 17
    rotate_left
    · have hbk : (k != 17) = true := by simpa using hk17
      have HKE : Hid (keys = []) := HVF.out.2.2.2.2.1 hk17
      have HST : Hid (sortT (.mk k n u s keys l) = .mk k n u s [] (sortL l)) := by show _ = _; rw [sortT, if_neg hk17, HKE.out]
      clear hk17
      clear d1 d2 d3 d4 d5
      go_wp2_with fail
      clear d0
      go_loopw [4, 5] (fun v i wr => ∃ kk : Nat, kk ≤ l.length ∧ i = .int .i64 kk ∧ Hid (Grow (fun _ => False) x1 wr v ((l.take kk).map sortT))) (fun _ i _ => l.length - (intOf i).toNat)
      case atStart => exact ⟨0, Nat.zero_le _, rfl, by show Grow _ _ _ _ _; exact Grow.start _ _⟩
      case round =>
        obtain ⟨kk, hkk, rfl, HW⟩ := hrel
        have hgw : Grew x1 wr := by obtain ⟨_, _, _, _, _, hm⟩ := HW.out; exact Moved.fresh (Grew.refl _) hm (fun g h => h.elim)
        have HGW := Lib.hid hgw
        have HRTW := Lib.hid (hgw.heap HRT.out)
        have HROW := Lib.hid (hgw.heap HRO.out)
        have HREW := Lib.hid (hgw.heap HRE.out)
        clear hgw
        have HGA := Lib.hid (HG.out.trans HGW.out)
        by_cases hlt : kk < l.length
        · obtain ⟨x, hx⟩ : ∃ x, l[kk]? = some x := ⟨_, List.getElem?_eq_getElem hlt⟩
          obtain ⟨xv, hxv, hnx⟩ := HKD.out.get hx
          have hxm : x ∈ l := List.mem_of_getElem? hx
          have HX := Lib.hid (show (l.take kk).map sortT ++ [sortT x] = (l.take (kk + 1)).map sortT by rw [List.take_add_one, hx]; simp)
          have HXS := Lib.hid (HSZ.out x hxm)
          have HXV := Lib.hid (HVL.out x hxm)
          obtain ⟨kb, ko, rfl, hc6⟩ : ∃ b off, a5 = some ⟨b, off, none⟩ ∧ Cells6 wr b (off + kk * 6) xv := by
            obtain ⟨a, c, e, _, _, _, h⟩ := HRL.out
            injection e with e1 e2 e3
            subst e1
            obtain ⟨b, off, e, h6⟩ := h kk xv hxv
            exact ⟨b, off, e, h6.grew HGA.out⟩
          obtain ⟨xk, xn, xu, xs, xa4, xn4, xc4, xa5, xn5, xc5, rfl⟩ := hnx.node6
          obtain ⟨f0, f1, f2, f3, f4, f5⟩ := hc6.get
          have HNX := Lib.hid (hnx.grew HGA.out)
          have e5 := row_cellT HRTW.out 5 _ rfl
          have hlti : (kk : Int) < l.length := by omega
          clear hc6 hx hxv hnx hxm
          go_wp2_with fail
          refine (ih x HXS.out.1 _ HXV.out HXS.out.2 _ wr HNX.out).mono ?_
          rintro r w4 ⟨xv, rfl, hox, hg4⟩
          clear f0 f1 f2 f3 f4 f5 e5
          obtain ⟨yk, yn, yu, ys, ya4, yn4, yc4, ya5, yn5, yc5, rfl⟩ := hox.node6
          have HOX := Lib.hid hox
          have HG4 := Lib.hid hg4
          obtain ⟨vs4, S4, q1, q2, q3, q4⟩ := HW.out
          obtain ⟨ga, gc, rfl, hz1, hz2, hz3⟩ := HW.out.form
          have HV4 : Hid (vs4.length ≤ 4096) := by show _ ≤ _; rw [q2.length, List.length_map, List.length_take]; omega
          have HQ1 := Lib.hid q1
          have HQ2 := Lib.hid q2
          have HQ3 := Lib.hid q3
          have HQ4 := Lib.hid q4
          have HON : Hid (∀ o, OwnN (w4.alloc o) x1.heap.size (.slice ga ((l.take kk).map sortT).length gc) vs4) := fun o => (q1.grew hg4).grew ((Grew.refl _).alloc o)
          have HSZ4 : Hid (∀ o, x1.heap.size ≤ (w4.alloc o).heap.size) := fun o => Nat.le_trans (Nat.le_trans HGW.out.size hg4.size) ((Grew.refl w4).alloc o).size
          clear q1 q2 q3 q4 hz1 hz2 hz3 hox hg4 HW
          generalize (l.take kk).map sortT = L at *
          go_wp2_with (at_builtin; refine wpList_appendN rfl _ _ rfl x1.heap.size _ vs4 rfl (HON.out _) _ _ (.agg #[.int .i64 yk, .int .i64 yn, .int .u64 yu, .string ys, .slice ya4 yn4 yc4, .slice ya5 yn5 yc5]) rfl (heap_alloc_new _ _) ⟨_, _, _, _, _, _, _, _, _, _, rfl⟩ (by have := HV4.out; omega) (HSZ4.out _) ?_; intro v' w5 hown hgr hnx; obtain ⟨va2, vc2, rfl, hz1, hz2, hz3⟩ := rows_form hown.1; have HG5 := Lib.hid (Grow.step (R := fun _ => False) (fun g h => h.elim) vs4 S4 HQ2.out HQ1.out HQ3.out HQ4.out HOX.out (Moved.of_grew HG4.out) _ hown hgr hnx); clear hown hgr hnx hz1 hz2 hz3)
          go_roundw
          case rel =>
            refine ⟨kk + 1, by omega, by go_num, ?_⟩
            show Grow _ _ _ _ _
            rw [← HX.out]
            have hh := HG5.out
            rw [List.length_append] at hh
            exact hh
          case measure => simp [intOf]; omega
        · have ek : kk = l.length := by omega
          subst ek
          have e5 := row_cellT HRTW.out 5 _ rfl
          have hw := HW.out
          rw [List.take_length, ← sortL_map] at hw
          obtain ⟨ga, gc, hfm, hz1, hz2, hz3⟩ := hw.form
          subst hfm
          have hll : (sortL l).length = l.length := by rw [sortL_map, List.length_map]
          rw [hll] at hw ⊢
          have ht := hw.tree (w0 := x1) (k := k) (n := n) (u := u) (s := s) (keys := []) (kv := .slice none 0 0) ⟨HB.out.1, HB.out.2.1, HB.out.2.2.1, HB.out.2.2.2, fun _ h => by cases h⟩ (Nat.le_refl _) (OwnS.nil _ _) (fun g h => by cases h)
          have hm : Moved (fun g => g = pr + 2) wr (wr.setCell ⟨pr + 2, 5, none⟩ (.slice ga l.length gc)) := Moved.setCell (S := fun g => g = pr + 2) (p := ⟨pr + 2, 5, none⟩) (Moved.refl _ wr) (fun _ => rfl) _
          obtain ⟨wf, hwf⟩ : ∃ W, wr.setCell ⟨pr + 2, 5, none⟩ (.slice ga l.length gc) = W := ⟨_, rfl⟩
          have hrf : wf.heap[pr + 2]? = some (.cells #[.int .i64 k, .int .i64 n, .int .u64 u, .string s, .slice none 0 0, .slice ga l.length gc] 26 (0, 0)) := by rw [← hwf]; have := heap_setCell_same wr (pr + 2) 5 _ _ (.slice ga l.length gc) HROW.out; simpa using this
          rw [hwf] at hm
          have hef := hm.heap HREW.out (fun e => by omega)
          have HFN : Hid (∃ v', Ending.returned (.agg #[.int .i64 k, .int .i64 n, .int .u64 u, .string s, .slice none 0 0, .slice ga l.length gc]) = .returned v' ∧ OwnT (store6 wf (pr + 1) (.int .i64 k) (.int .i64 n) (.int .u64 u) (.string s) (.slice none 0 0) (.slice ga l.length gc)) w.heap.size (sortT (.mk k n u s keys l)) v' (Fresh w (store6 wf (pr + 1) (.int .i64 k) (.int .i64 n) (.int .u64 u) (.string s) (.slice none 0 0) (.slice ga l.length gc))) ∧ Grew w (store6 wf (pr + 1) (.int .i64 k) (.int .i64 n) (.int .u64 u) (.string s) (.slice none 0 0) (.slice ga l.length gc))) := by
              have h2 := HZ2.out
              have hmz := hm.size
              rw [HST.out]
              exact own_ret HPR.out (by omega) ((ht.kept hm (fun g hg e => by have h1 := hg.1; omega)).mono (fun g hg => ⟨hg.1, by have h1 := hg.2; omega⟩)) (Moved.fresh HGA.out hm (fun g e => by have h1 := HPR.out; omega)) _ _ _ _ _ _
          have o0 := row_cellT HROW.out 0 _ rfl
          have o1 := row_cellT HROW.out 1 _ rfl
          have o2 := row_cellT HROW.out 2 _ rfl
          have o3 := row_cellT HROW.out 3 _ rfl
          have o4 := row_cellT HROW.out 4 _ rfl
          have o5 := row_cellT HROW.out 5 _ rfl
          have q0 := row_frozen HROW.out 0
          have q1 := row_frozen HROW.out 1
          have q2 := row_frozen HROW.out 2
          have q3 := row_frozen HROW.out 3
          have q4 := row_frozen HROW.out 4
          have q5 := row_frozen HROW.out 5
          clear hw HW ht hm hz1 hz2 hz3 hll hlt
          go_upto_region 9 with fail
          try rw [hwf]
          clear o0 o1 o2 o3 o4 o5 q0 q1 q2 q3 q4 q5
          have o0 := row_cellT hrf 0 _ rfl
          have o1 := row_cellT hrf 1 _ rfl
          have o2 := row_cellT hrf 2 _ rfl
          have o3 := row_cellT hrf 3 _ rfl
          have o4 := row_cellT hrf 4 _ rfl
          have o5 := row_cellT hrf 5 _ rfl
          have z0 := row_cellT hef 0 _ rfl
          have z1 := row_cellT hef 1 _ rfl
          have z2 := row_cellT hef 2 _ rfl
          have z3 := row_cellT hef 3 _ rfl
          have z4 := row_cellT hef 4 _ rfl
          have z5 := row_cellT hef 5 _ rfl
          have q0 := row_frozen hef 0
          have q1 := row_frozen hef 1
          have q2 := row_frozen hef 2
          have q3 := row_frozen hef 3
          have q4 := row_frozen hef 4
          have q5 := row_frozen hef 5
          clear hrf hef hwf
          go_wp2_with fail
          refine bodyPost_ret (v := .agg #[.int .i64 k, .int .i64 n, .int .u64 u, .string s, .slice none 0 0, .slice ga l.length gc]) (by simp [results, Try.results50, go_sem, z0, z1, z2, z3, z4, z5]) rfl ?_
          exact HFN.out
    · subst hk17
      have HKL : Hid (keys.length = l.length) := HVF.out.2.2.2.2.2.2 rfl
      have hkl4 : keys.length ≤ 4096 := by rw [HKL.out]; exact hlen
      have HKL4 := Lib.hid hkl4
      obtain ⟨zt, hzt⟩ : ∃ z : Tr, z = .mk 1 0 0 ⟨#[]⟩ [] [] := ⟨_, rfl⟩
      have HST := Lib.hid (sortT_placed (n := n) (u := u) (s := s) HKL.out zt)
      have HPL := Lib.hid (placed_len keys)
      have hord := rorder_any keys hkl4 (.slice a4 keys.length c4)
      rw [ordK_placed HND.out] at hord
      have HORD := Lib.hid hord
      have HPG : Hid (∀ p ∈ placedK keys, keys[p.2]? = some p.1) := fun p hp => placed_get hp
      clear hord hkl4 hzt
      generalize placedK keys = Q at *
      go_wp2_with fail
      refine (HORD.out x1 (HKS.out.grew HG.out)).mono ?_
      rintro r x2 ⟨hgc, pv, rfl, hrow⟩
      have HROWI := Lib.hid hrow
      obtain ⟨pa, pc, rfl, _, _, _, _⟩ := hrow
      clear d0 d1 d2 d3 d4 d5
      replace HRT := Lib.hid (hgc.heap HRT.out)
      replace HRO := Lib.hid (hgc.heap HRO.out)
      replace HRE := Lib.hid (hgc.heap HRE.out)
      have HGX := HG
      have HC := Lib.hid hgc
      replace HG := Lib.hid (HGX.out.trans hgc)
      clear hgc
      simp only [List.length_map]
      go_wp2_with fail
      go_loopw [8, 9, 10] (fun kv v i wr => ∃ kk : Nat, kk ≤ Q.length ∧ i = .int .i64 kk ∧ Hid (TwoR x2 wr kv v ((Q.take kk).map Prod.fst) ((Q.take kk).map fun p => sortT (l.getD p.2 zt)))) (fun _ _ i _ => Q.length - (intOf i).toNat)
      case atStart => exact ⟨0, Nat.zero_le _, rfl, by show TwoR _ _ _ _ _ _; exact TwoR.start _⟩
      case round =>
        obtain ⟨kk, hkk, rfl, HW⟩ := hrel
        have HGW := Lib.hid HW.out.1
        have HGA := Lib.hid (HG.out.trans HGW.out)
        have HRTW := Lib.hid (HGW.out.heap HRT.out)
        have HROW := Lib.hid (HGW.out.heap HRO.out)
        have HREW := Lib.hid (HGW.out.heap HRE.out)
        by_cases hlt : kk < Q.length
        · obtain ⟨⟨q, j⟩, hx⟩ : ∃ p, Q[kk]? = some p := ⟨_, List.getElem?_eq_getElem hlt⟩
          have hkq : keys[j]? = some q := HPG.out _ (List.mem_of_getElem? hx)
          have hjk := (List.getElem?_eq_some_iff.1 hkq).1
          have hjl : j < l.length := by rw [← HKL.out]; exact hjk
          obtain ⟨x, hxl⟩ : ∃ x, l[j]? = some x := ⟨_, List.getElem?_eq_getElem hjl⟩
          have HX1 := Lib.hid (show (Q.take kk).map Prod.fst ++ [q] = (Q.take (kk + 1)).map Prod.fst by rw [List.take_add_one, hx]; simp)
          have HX2 := Lib.hid (show (Q.take kk).map (fun p => sortT (l.getD p.2 zt)) ++ [sortT x] = (Q.take (kk + 1)).map (fun p => sortT (l.getD p.2 zt)) by rw [List.take_add_one, hx]; simp [List.getD_eq_getElem?_getD, hxl])
          obtain ⟨_, pb, po, hpa, hcp⟩ := (by obtain ⟨_, _, e, _, _, _, h⟩ := HROWI.out; cases e; exact h kk (j : Int) (by rw [List.getElem?_map, hx]; rfl) : True ∧ ∃ b off, pa = some ⟨b, off, none⟩ ∧ x2.cell? ⟨b, off + kk, none⟩ = some (.int .i64 (j : Int)))
          subst hpa
          obtain ⟨hqz, kb, ko, hka, hck⟩ := (by obtain ⟨_, _, e, _, _, _, h⟩ := HKS.out; cases e; exact h j q hkq : lenok q.size ∧ ∃ b off, a4 = some ⟨b, off, none⟩ ∧ w.cell? ⟨b, off + j, none⟩ = some (.string q))
          subst hka
          have cp := HGW.out.cell hcp
          have ck := HGA.out.cell hck
          have hlti : (kk : Int) < Q.length := by omega
          have hjki : (j : Int) < keys.length := by omega
          have hjli : (j : Int) < l.length := by omega
          obtain ⟨xv, hxv, hnx⟩ := HKD.out.get hxl
          have hxm : x ∈ l := List.mem_of_getElem? hxl
          have HXS := Lib.hid (HSZ.out x hxm)
          have HXV := Lib.hid (HVL.out x hxm)
          have HQZ := Lib.hid hqz
          obtain ⟨lb, lo, hla, hc6⟩ : ∃ b off, a5 = some ⟨b, off, none⟩ ∧ Cells6 w b (off + j * 6) xv := by
            obtain ⟨a, c, e, _, _, _, h⟩ := HRL.out
            injection e with e1 e2 e3
            subst e1
            exact h j xv hxv
          subst hla
          obtain ⟨xk, xn, xu, xs, xa4, xn4, xc4, xa5, xn5, xc5, rfl⟩ := hnx.node6
          have HC6 := Lib.hid hc6
          have HNX := Lib.hid hnx
          have HCP := Lib.hid hcp
          obtain ⟨ka, kc, hkf, _, _, _⟩ := rows_form HW.out.2.1
          subst hkf
          have HKN : Hid (((Q.take kk).map Prod.fst).length = kk) := by show _ = _; rw [List.length_map, List.length_take]; omega
          have HLN : Hid (((Q.take kk).map fun p => sortT (l.getD p.2 zt)).length = kk) := by show _ = _; rw [List.length_map, List.length_take]; omega
          have HQ4 : Hid (kk < 4096) := by have := HPL.out; have := HKL4.out; show _ < _; omega
          have d4 := row_cellT HRTW.out 4 _ rfl
          clear hc6 hxl hxv hnx hxm hcp hqz hkq hx HROW
          generalize (Q.take kk).map Prod.fst = K at *
          generalize (Q.take kk).map (fun p => sortT (l.getD p.2 zt)) = L at *
          go_wp2_with fail
          refine wp_region_tablesN Grew 10 [[], [], [1], [], [], [3, 4], [3, 4, 5], [1, 2, 3, 4, 5, 6], [1, 2, 3, 4, 5, 6, 7], [1, 2, 3, 4, 5, 6, 7, 8], [0, 1, 2, 3, 4, 5, 6, 7, 8, 9], [0, 1, 2, 3, 4, 5, 6, 7, 8, 9, 10]] [[(55, 1), (56, 2), (57, 3), (58, 4), (59, 5), (60, 6), (61, 7), (62, 8), (63, 9)], [(54, 0), (57, 3), (58, 4), (59, 5), (60, 6)], [(54, 0), (55, 1), (57, 3), (58, 4), (59, 5), (60, 6)], [(54, 0), (55, 1), (56, 2), (58, 4)], [(54, 0), (55, 1), (56, 2), (57, 3)], [(54, 0), (55, 1), (56, 2), (57, 3), (58, 4)], [(54, 0), (55, 1), (56, 2), (57, 3), (58, 4), (59, 5)], [(54, 0), (55, 1), (56, 2), (57, 3), (58, 4), (59, 5), (60, 6)], [(54, 0), (55, 1), (56, 2), (57, 3), (58, 4), (59, 5), (60, 6), (61, 7)], [(54, 0), (55, 1), (56, 2), (57, 3), (58, 4), (59, 5), (60, 6), (61, 7), (62, 8)], [(54, 0), (55, 1), (56, 2), (57, 3), (58, 4), (59, 5), (60, 6), (61, 7), (62, 8), (63, 9)], [(54, 0), (55, 1), (56, 2), (57, 3), (58, 4), (59, 5), (60, 6), (61, 7), (62, 8), (63, 9), (64, 10)]] [(54, 0), (55, 1), (56, 2), (57, 3), (58, 4), (59, 5), (60, 6), (61, 7), (62, 8), (63, 9)]
            [Is (.slice ka K.length kc), Is (.pointer (some ⟨pr, 4, none⟩)), Is (.slice (some ⟨kb, ko, none⟩) keys.length c4), Is (.slice (some ⟨pb, po, none⟩) Q.length pc), Is (.int .i64 kk), Is (.pointer (some ⟨pb, po + kk, none⟩)), Is (.int .i64 j), Is (.pointer (some ⟨kb, ko + j, none⟩)), Is (.string q), fun v w => StrsAt w v [q]]
            (by kernel_rfl) Grew.trans Grew.refl (Grew.refl _).drew (by kernel_rfl) ⟨is_st, is_st, is_st, is_st, is_st, is_st, is_st, is_st, is_st, fun _ _ _ hg h => StrsAt.grew h hg, trivial⟩ rfl ?_ ?_
          rotate_left
          · intro y w2 hG hF
            simp only [factsH, Is, and_true, Nat.reduceAdd] at hF
            have h0 := hF.1
            have h1 := hF.2.1
            have h2 := hF.2.2.1
            have h3 := hF.2.2.2.1
            have h4 := hF.2.2.2.2.1
            have h5 := hF.2.2.2.2.2.1
            have h6 := hF.2.2.2.2.2.2.1
            have h7 := hF.2.2.2.2.2.2.2.1
            have h8 := hF.2.2.2.2.2.2.2.2.1
            have h9 := hF.2.2.2.2.2.2.2.2.2
            clear hF
            simp only [fillL, Act.put, List.setIfInBounds_toArray, List.set_cons_zero, List.set_cons_succ, List.getD_cons_zero, List.getD_cons_succ, List.drop_succ_cons, List.drop_zero]
            simp only [h0, h1, h2, h3, h4, h5, h6, h7, h8]
            clear h0 h1 h2 h3 h4 h5 h6 h7 h8
            have HGD := Lib.hid hG
            have HST9 := Lib.hid h9
            clear hG h9
            have HON : Hid (OwnS w2 x2.heap.size (.slice ka K.length kc) K) := HW.out.2.1.grew' HGD.out
            have HSZ4 : Hid (x2.heap.size ≤ w2.heap.size) := Nat.le_trans HGW.out.size HGD.out.size
            go_wp2_with (at_builtin; refine wpList_appendS rfl _ _ rfl x2.heap.size (.slice ka K.length kc) K rfl HON.out _ [q] rfl HST9.out (by have := HKN.out; have := HQ4.out; simp; omega) HSZ4.out ?_; intro v' w5 hown hgr hnx; obtain ⟨va2, vc2, rfl, hz1, hz2, hz3⟩ := rows_form hown; have HW5 := Lib.hid (HW.out.key HGD.out hown hgr hnx); clear hown hgr hnx hz1 hz2 hz3)
            have HG5 := Lib.hid HW5.out.1
            have cp5 := HG5.out.cell HCP.out
            have e5 := row_cellT (HG5.out.heap HRT.out) 5 _ rfl
            clear cp ck d4
            have HGA5 := Lib.hid (HG.out.trans HG5.out)
            obtain ⟨f0, f1, f2, f3, f4, f5⟩ := (HC6.out.grew HGA5.out).get
            obtain ⟨h0, h1, h2, vs5, S5, h3, h4, h5⟩ := HW5.out
            obtain ⟨ga, gc, hgf, hz1, hz2, hz3⟩ := rows_form h3.1
            subst hgf
            have HV5 : Hid (vs5.length = L.length) := h4.length
            have HT0 := Lib.hid h0
            have HT1 := Lib.hid h1
            have HT2 := Lib.hid h2
            have HT3 := Lib.hid h3
            have HT4 := Lib.hid h4
            have HT5 := Lib.hid h5
            clear h0 h1 h2 h3 h4 h5 hz1 hz2 hz3
            go_wp2_with fail
            refine wp_region_tablesN Grew 11 [[], [], [1], [], [], [3, 4], [3, 4, 5], [1, 2, 3, 4, 5, 6], [1, 2, 3, 4, 5, 6, 7], [1, 2, 3, 4, 5, 6, 7, 8], [1, 2, 3, 4, 5, 6, 7, 8, 9], [0, 1, 2, 3, 4, 5, 6, 7, 8, 9, 10], [0, 1, 2, 3, 4, 5, 6, 7, 8, 9, 10, 11]] [[(66, 1), (67, 2), (68, 3), (69, 4), (70, 5), (71, 6), (72, 7), (73, 8), (74, 9), (75, 10)], [(65, 0), (68, 3), (69, 4), (70, 5), (71, 6)], [(65, 0), (66, 1), (68, 3), (69, 4), (70, 5), (71, 6)], [(65, 0), (66, 1), (67, 2), (69, 4)], [(65, 0), (66, 1), (67, 2), (68, 3)], [(65, 0), (66, 1), (67, 2), (68, 3), (69, 4)], [(65, 0), (66, 1), (67, 2), (68, 3), (69, 4), (70, 5)], [(65, 0), (66, 1), (67, 2), (68, 3), (69, 4), (70, 5), (71, 6)], [(65, 0), (66, 1), (67, 2), (68, 3), (69, 4), (70, 5), (71, 6), (72, 7)], [(65, 0), (66, 1), (67, 2), (68, 3), (69, 4), (70, 5), (71, 6), (72, 7), (73, 8)], [(65, 0), (66, 1), (67, 2), (68, 3), (69, 4), (70, 5), (71, 6), (72, 7), (73, 8), (74, 9)], [(65, 0), (66, 1), (67, 2), (68, 3), (69, 4), (70, 5), (71, 6), (72, 7), (73, 8), (74, 9), (75, 10)], [(65, 0), (66, 1), (67, 2), (68, 3), (69, 4), (70, 5), (71, 6), (72, 7), (73, 8), (74, 9), (75, 10), (76, 11)]] [(65, 0), (66, 1), (67, 2), (68, 3), (69, 4), (70, 5), (71, 6), (72, 7), (73, 8), (74, 9), (75, 10)]
              [Is (.slice ga vs5.length gc), Is (.pointer (some ⟨pr, 5, none⟩)), Is (.slice (some ⟨lb, lo, none⟩) l.length c5), Is (.slice (some ⟨pb, po, none⟩) Q.length pc), Is (.int .i64 kk), Is (.pointer (some ⟨pb, po + kk, none⟩)), Is (.int .i64 j), Is (.pointer (some ⟨lb, lo + j * 6, none⟩)), Is (.agg #[.int .i64 xk, .int .i64 xn, .int .u64 xu, .string xs, .slice xa4 xn4 xc4, .slice xa5 xn5 xc5]), KidA w5 (sortT x), KidB w5 (sortT x)]
              (by kernel_rfl) Grew.trans Grew.refl (Grew.refl _).drew (by kernel_rfl) ⟨is_st, is_st, is_st, is_st, is_st, is_st, is_st, is_st, is_st, KidA.st w5 (sortT x), KidB.st w5 (sortT x), trivial⟩ rfl ?_ ?_
            rotate_left
            · intro y w2 hG hF
              simp only [factsH, Is, and_true, Nat.reduceAdd] at hF
              have h0 := hF.1
              have h1 := hF.2.1
              have h2 := hF.2.2.1
              have h3 := hF.2.2.2.1
              have h4 := hF.2.2.2.2.1
              have h5 := hF.2.2.2.2.2.1
              have h6 := hF.2.2.2.2.2.2.1
              have h7 := hF.2.2.2.2.2.2.2.1
              have h8 := hF.2.2.2.2.2.2.2.2.1
              have h9 := hF.2.2.2.2.2.2.2.2.2.1
              have h10 := hF.2.2.2.2.2.2.2.2.2.2
              clear hF
              simp only [fillL, Act.put, List.setIfInBounds_toArray, List.set_cons_zero, List.set_cons_succ, List.getD_cons_zero, List.getD_cons_succ, List.drop_succ_cons, List.drop_zero]
              simp only [h0, h1, h2, h3, h4, h5, h6, h7, h8]
              clear h0 h1 h2 h3 h4 h5 h6 h7 h8
              obtain ⟨wa, yv, g10, q1, q2, q3, e10, q5⟩ := h10
              obtain ⟨yk, yn, yu, ys, ya4, yn4, yc4, ya5, yn5, yc5, rfl⟩ := q2.node6
              rw [e10]
              have HON7 : Hid (OwnN w2 x2.heap.size (.slice ga vs5.length gc) vs5) := HT3.out.grew hG
              have HSZ7 : Hid (x2.heap.size ≤ w2.heap.size) := Nat.le_trans HT0.out.size hG.size
              have HQ := Lib.hid (And.intro q1 (And.intro q2 (And.intro q3 q5)))
              clear q1 q2 q3 q5 e10 hG h9
              have hq4 := HQ4.out
              have hwk : IntKind.i64.wrap ((kk : Int) + 1) = (kk : Int) + 1 := by rw [IntKind.wrap_i64]; omega
              go_wp2_with (at_builtin; refine wpList_appendN rfl _ _ rfl x2.heap.size _ vs5 rfl HON7.out _ _ (.agg #[.int .i64 yk, .int .i64 yn, .int .u64 yu, .string ys, .slice ya4 yn4 yc4, .slice ya5 yn5 yc5]) rfl HQ.out.2.2.2 ⟨_, _, _, _, _, _, _, _, _, _, rfl⟩ (by have := HV5.out; have := HLN.out; have := HQ4.out; omega) HSZ7.out ?_; intro v' w8 hown hgr hnx; obtain ⟨va3, vc3, rfl, hz1, hz2, hz3⟩ := rows_form hown.1; have HW8 := Lib.hid (two_kid2 (HT0.out.trans HQ.out.1) (HT1.out.grew' HQ.out.1) HT2.out vs5 S5 (HT3.out.grew HQ.out.1) (HT4.out.grew HQ.out.1) (fun g hg => ⟨(HT5.out g hg).1, Nat.lt_of_lt_of_le (HT5.out g hg).2.1 HQ.out.1.size, (HT5.out g hg).2.2⟩) HQ.out.2.1 HQ.out.2.2.1 (Grew.refl _) hown hgr hnx); clear hown hgr hnx hz1 hz2 hz3)
              go_roundw
              case rel =>
                refine ⟨kk + 1, by omega, by go_num, ?_⟩
                show TwoR _ _ _ _ _ _
                rw [← HX1.out, ← HX2.out]
                have hh := HW8.out
                simp only [List.length_append, List.length_cons, List.length_nil, Nat.zero_add] at hh
                exact hh
              case measure => simp [intOf]; omega
            refine ⟨?_, ?_⟩
            · intro y w2 hG hD K hK
              simp only [fillL, Act.put, List.setIfInBounds_toArray, List.set_cons_zero, List.set_cons_succ, List.getD_cons_zero, List.getD_cons_succ, Is] at hK ⊢
              refine ite_yes (by rfl) ?_
              go_simp
              exact hK _ _ _ rfl (Grew.refl _) rfl
            refine ⟨?_, ?_⟩
            · intro y w2 hG hD K hK
              simp only [fillL, Act.put, List.setIfInBounds_toArray, List.set_cons_zero, List.set_cons_succ, List.getD_cons_zero, List.getD_cons_succ, Is] at hK ⊢
              refine ite_yes (by rfl) ?_
              go_simp
              exact hK _ _ _ rfl (Grew.refl _) rfl
            refine ⟨?_, ?_⟩
            · intro y w2 hG hD K hK
              simp only [depsH, List.getD_cons_zero, List.getD_cons_succ, Is, and_true] at hD
              have h1 := hD
              clear hD
              have de5 := hG.cell e5
              simp only [fillL, Act.put, List.setIfInBounds_toArray, List.set_cons_zero, List.set_cons_succ, List.getD_cons_zero, List.getD_cons_succ, Is] at hK ⊢
              simp only [h1] at hK ⊢
              clear h1
              refine ite_yes (by rfl) ?_
              go_simp
              exact hK _ _ _ rfl (Grew.refl _) rfl
            refine ⟨?_, ?_⟩
            · intro y w2 hG hD K hK
              simp only [fillL, Act.put, List.setIfInBounds_toArray, List.set_cons_zero, List.set_cons_succ, List.getD_cons_zero, List.getD_cons_succ, Is] at hK ⊢
              refine ite_yes (by rfl) ?_
              go_simp
              exact hK _ _ _ rfl (Grew.refl _) rfl
            refine ⟨?_, ?_⟩
            · intro y w2 hG hD K hK
              simp only [fillL, Act.put, List.setIfInBounds_toArray, List.set_cons_zero, List.set_cons_succ, List.getD_cons_zero, List.getD_cons_succ, Is] at hK ⊢
              refine ite_yes (by rfl) ?_
              go_simp
              exact hK _ _ _ rfl (Grew.refl _) rfl
            refine ⟨?_, ?_⟩
            · intro y w2 hG hD K hK
              simp only [depsH, List.getD_cons_zero, List.getD_cons_succ, Is, and_true] at hD
              have h3 := hD.1
              have h4 := hD.2
              clear hD
              simp only [fillL, Act.put, List.setIfInBounds_toArray, List.set_cons_zero, List.set_cons_succ, List.getD_cons_zero, List.getD_cons_succ, Is] at hK ⊢
              simp only [h3, h4] at hK ⊢
              clear h3 h4
              refine ite_yes (by rfl) ?_
              go_simp
              exact hK _ _ _ rfl (Grew.refl _) rfl
            refine ⟨?_, ?_⟩
            · intro y w2 hG hD K hK
              simp only [depsH, List.getD_cons_zero, List.getD_cons_succ, Is, and_true] at hD
              have h3 := hD.1
              have h4 := hD.2.1
              have h5 := hD.2.2
              clear hD
              have dcp5 := hG.cell cp5
              simp only [fillL, Act.put, List.setIfInBounds_toArray, List.set_cons_zero, List.set_cons_succ, List.getD_cons_zero, List.getD_cons_succ, Is] at hK ⊢
              simp only [h3, h4, h5] at hK ⊢
              clear h3 h4 h5
              refine ite_yes (by rfl) ?_
              go_simp
              exact hK _ _ _ rfl (Grew.refl _) rfl
            refine ⟨?_, ?_⟩
            · intro y w2 hG hD K hK
              simp only [depsH, List.getD_cons_zero, List.getD_cons_succ, Is, and_true] at hD
              have h1 := hD.1
              have h2 := hD.2.1
              have h3 := hD.2.2.1
              have h4 := hD.2.2.2.1
              have h5 := hD.2.2.2.2.1
              have h6 := hD.2.2.2.2.2
              clear hD
              simp only [fillL, Act.put, List.setIfInBounds_toArray, List.set_cons_zero, List.set_cons_succ, List.getD_cons_zero, List.getD_cons_succ, Is] at hK ⊢
              simp only [h1, h2, h3, h4, h5, h6] at hK ⊢
              clear h1 h2 h3 h4 h5 h6
              refine ite_yes (by rfl) ?_
              go_simp
              exact hK _ _ _ rfl (Grew.refl _) rfl
            refine ⟨?_, ?_⟩
            · intro y w2 hG hD K hK
              simp only [depsH, List.getD_cons_zero, List.getD_cons_succ, Is, and_true] at hD
              have h1 := hD.1
              have h2 := hD.2.1
              have h3 := hD.2.2.1
              have h4 := hD.2.2.2.1
              have h5 := hD.2.2.2.2.1
              have h6 := hD.2.2.2.2.2.1
              have h7 := hD.2.2.2.2.2.2
              clear hD
              have df0 := hG.cell f0
              have df1 := hG.cell f1
              have df2 := hG.cell f2
              have df3 := hG.cell f3
              have df4 := hG.cell f4
              have df5 := hG.cell f5
              simp only [fillL, Act.put, List.setIfInBounds_toArray, List.set_cons_zero, List.set_cons_succ, List.getD_cons_zero, List.getD_cons_succ, Is] at hK ⊢
              simp only [h1, h2, h3, h4, h5, h6, h7] at hK ⊢
              clear h1 h2 h3 h4 h5 h6 h7
              refine ite_yes (by rfl) ?_
              go_simp
              exact hK _ _ _ rfl (Grew.refl _) rfl
            refine ⟨?_, ?_⟩
            · intro y w2 hG hD K hK
              simp only [depsH, List.getD_cons_zero, List.getD_cons_succ, Is, and_true] at hD
              have h1 := hD.1
              have h2 := hD.2.1
              have h3 := hD.2.2.1
              have h4 := hD.2.2.2.1
              have h5 := hD.2.2.2.2.1
              have h6 := hD.2.2.2.2.2.1
              have h7 := hD.2.2.2.2.2.2.1
              have h8 := hD.2.2.2.2.2.2.2
              clear hD
              simp only [fillL, Act.put, List.setIfInBounds_toArray, List.set_cons_zero, List.set_cons_succ, List.getD_cons_zero, List.getD_cons_succ, Is] at hK ⊢
              simp only [h1, h2, h3, h4, h5, h6, h7, h8] at hK ⊢
              clear h1 h2 h3 h4 h5 h6 h7 h8
              refine ite_yes (by rfl) ?_
              go_simp
              refine (ih x HXS.out.1 _ HXV.out HXS.out.2 _ w2 (HNX.out.grew (HGA5.out.trans hG))).mono ?_
              rintro r w3 ⟨xv, rfl, hox, hg7⟩
              exact hK _ _ _ rfl hg7 ⟨w2, hG, hox, hg7⟩
            refine ⟨?_, ?_⟩
            · intro y w2 hG hD K hK
              simp only [depsH, List.getD_cons_zero, List.getD_cons_succ, Is, and_true] at hD
              have h1 := hD.1
              have h2 := hD.2.1
              have h3 := hD.2.2.1
              have h4 := hD.2.2.2.1
              have h5 := hD.2.2.2.2.1
              have h6 := hD.2.2.2.2.2.1
              have h7 := hD.2.2.2.2.2.2.1
              have h8 := hD.2.2.2.2.2.2.2.1
              have h9 := hD.2.2.2.2.2.2.2.2
              clear hD
              simp only [fillL, Act.put, List.setIfInBounds_toArray, List.set_cons_zero, List.set_cons_succ, List.getD_cons_zero, List.getD_cons_succ, Is] at hK ⊢
              simp only [h1, h2, h3, h4, h5, h6, h7, h8] at hK ⊢
              clear h1 h2 h3 h4 h5 h6 h7 h8
              refine ite_yes (by rfl) ?_
              obtain ⟨wa, q1, q2, q3⟩ := h9
              obtain ⟨yk, yn, yu, ys, ya4, yn4, yc4, ya5, yn5, yc5, ey⟩ := q2.node6
              rw [ey] at hK ⊢ q2
              go_simp
              exact hK _ _ _ rfl ((Grew.refl _).alloc _) ⟨wa, _, _, q1, (q2.grew ((Grew.refl _).alloc _)).mono (fun g hg => ⟨hg.1, Nat.lt_of_lt_of_le hg.2 ((Grew.refl _).alloc _).size⟩), q3.trans ((Grew.refl _).alloc _), rfl, heap_alloc_new _ _⟩
            trivial
          refine ⟨?_, ?_⟩
          · intro y w2 hG hD K hK
            simp only [fillL, Act.put, List.setIfInBounds_toArray, List.set_cons_zero, List.set_cons_succ, List.getD_cons_zero, List.getD_cons_succ, Is] at hK ⊢
            refine ite_yes (by rfl) ?_
            go_simp
            exact hK _ _ _ rfl (Grew.refl _) rfl
          refine ⟨?_, ?_⟩
          · intro y w2 hG hD K hK
            simp only [fillL, Act.put, List.setIfInBounds_toArray, List.set_cons_zero, List.set_cons_succ, List.getD_cons_zero, List.getD_cons_succ, Is] at hK ⊢
            refine ite_yes (by rfl) ?_
            go_simp
            exact hK _ _ _ rfl (Grew.refl _) rfl
          refine ⟨?_, ?_⟩
          · intro y w2 hG hD K hK
            simp only [depsH, List.getD_cons_zero, List.getD_cons_succ, Is, and_true] at hD
            have h1 := hD
            clear hD
            have dd4 := hG.cell d4
            simp only [fillL, Act.put, List.setIfInBounds_toArray, List.set_cons_zero, List.set_cons_succ, List.getD_cons_zero, List.getD_cons_succ, Is] at hK ⊢
            simp only [h1] at hK ⊢
            clear h1
            refine ite_yes (by rfl) ?_
            go_simp
            exact hK _ _ _ rfl (Grew.refl _) rfl
          refine ⟨?_, ?_⟩
          · intro y w2 hG hD K hK
            simp only [fillL, Act.put, List.setIfInBounds_toArray, List.set_cons_zero, List.set_cons_succ, List.getD_cons_zero, List.getD_cons_succ, Is] at hK ⊢
            refine ite_yes (by rfl) ?_
            go_simp
            exact hK _ _ _ rfl (Grew.refl _) rfl
          refine ⟨?_, ?_⟩
          · intro y w2 hG hD K hK
            simp only [fillL, Act.put, List.setIfInBounds_toArray, List.set_cons_zero, List.set_cons_succ, List.getD_cons_zero, List.getD_cons_succ, Is] at hK ⊢
            refine ite_yes (by rfl) ?_
            go_simp
            exact hK _ _ _ rfl (Grew.refl _) rfl
          refine ⟨?_, ?_⟩
          · intro y w2 hG hD K hK
            simp only [depsH, List.getD_cons_zero, List.getD_cons_succ, Is, and_true] at hD
            have h3 := hD.1
            have h4 := hD.2
            clear hD
            simp only [fillL, Act.put, List.setIfInBounds_toArray, List.set_cons_zero, List.set_cons_succ, List.getD_cons_zero, List.getD_cons_succ, Is] at hK ⊢
            simp only [h3, h4] at hK ⊢
            clear h3 h4
            refine ite_yes (by rfl) ?_
            go_simp
            exact hK _ _ _ rfl (Grew.refl _) rfl
          refine ⟨?_, ?_⟩
          · intro y w2 hG hD K hK
            simp only [depsH, List.getD_cons_zero, List.getD_cons_succ, Is, and_true] at hD
            have h3 := hD.1
            have h4 := hD.2.1
            have h5 := hD.2.2
            clear hD
            have dcp := hG.cell cp
            simp only [fillL, Act.put, List.setIfInBounds_toArray, List.set_cons_zero, List.set_cons_succ, List.getD_cons_zero, List.getD_cons_succ, Is] at hK ⊢
            simp only [h3, h4, h5] at hK ⊢
            clear h3 h4 h5
            refine ite_yes (by rfl) ?_
            go_simp
            exact hK _ _ _ rfl (Grew.refl _) rfl
          refine ⟨?_, ?_⟩
          · intro y w2 hG hD K hK
            simp only [depsH, List.getD_cons_zero, List.getD_cons_succ, Is, and_true] at hD
            have h1 := hD.1
            have h2 := hD.2.1
            have h3 := hD.2.2.1
            have h4 := hD.2.2.2.1
            have h5 := hD.2.2.2.2.1
            have h6 := hD.2.2.2.2.2
            clear hD
            simp only [fillL, Act.put, List.setIfInBounds_toArray, List.set_cons_zero, List.set_cons_succ, List.getD_cons_zero, List.getD_cons_succ, Is] at hK ⊢
            simp only [h1, h2, h3, h4, h5, h6] at hK ⊢
            clear h1 h2 h3 h4 h5 h6
            refine ite_yes (by rfl) ?_
            go_simp
            exact hK _ _ _ rfl (Grew.refl _) rfl
          refine ⟨?_, ?_⟩
          · intro y w2 hG hD K hK
            simp only [depsH, List.getD_cons_zero, List.getD_cons_succ, Is, and_true] at hD
            have h1 := hD.1
            have h2 := hD.2.1
            have h3 := hD.2.2.1
            have h4 := hD.2.2.2.1
            have h5 := hD.2.2.2.2.1
            have h6 := hD.2.2.2.2.2.1
            have h7 := hD.2.2.2.2.2.2
            clear hD
            have dck := hG.cell ck
            simp only [fillL, Act.put, List.setIfInBounds_toArray, List.set_cons_zero, List.set_cons_succ, List.getD_cons_zero, List.getD_cons_succ, Is] at hK ⊢
            simp only [h1, h2, h3, h4, h5, h6, h7] at hK ⊢
            clear h1 h2 h3 h4 h5 h6 h7
            refine ite_yes (by rfl) ?_
            go_simp
            exact hK _ _ _ rfl (Grew.refl _) rfl
          refine ⟨?_, ?_⟩
          · intro y w2 hG hD K hK
            simp only [depsH, List.getD_cons_zero, List.getD_cons_succ, Is, and_true] at hD
            have h1 := hD.1
            have h2 := hD.2.1
            have h3 := hD.2.2.1
            have h4 := hD.2.2.2.1
            have h5 := hD.2.2.2.2.1
            have h6 := hD.2.2.2.2.2.1
            have h7 := hD.2.2.2.2.2.2.1
            have h8 := hD.2.2.2.2.2.2.2
            clear hD
            simp only [fillL, Act.put, List.setIfInBounds_toArray, List.set_cons_zero, List.set_cons_succ, List.getD_cons_zero, List.getD_cons_succ, Is] at hK ⊢
            simp only [h1, h2, h3, h4, h5, h6, h7, h8] at hK ⊢
            clear h1 h2 h3 h4 h5 h6 h7 h8
            refine ite_yes (by rfl) ?_
            go_simp
            exact hK _ _ _ rfl ((Grew.refl _).alloc _) (strs_new _ _ HQZ.out)
          trivial
        · have ek : kk = Q.length := by omega
          subst ek
          have hw := HW.out
          rw [List.take_length] at hw
          obtain ⟨ka, kc, hkf, _, _, _⟩ := rows_form hw.2.1
          subst hkf
          have hvv : ∃ n1 ga gc, u9 = .slice ga n1 gc := by obtain ⟨_, _, _, vs5, S5, h3, _, _⟩ := hw; obtain ⟨ga, gc, e, _, _, _⟩ := rows_form h3.1; exact ⟨_, _, _, e⟩
          obtain ⟨nl, ga, gc, rfl⟩ := hvv
          have ht := hw.tree (w0 := x1) (k := 17) (n := n) (u := u) (s := s) ⟨by unfold i64ok; omega, HB.out.2.1, HB.out.2.2.1, HB.out.2.2.2, fun x hx => by
              obtain ⟨p, hp, rfl⟩ := List.mem_map.1 hx
              exact HKZ.out _ (List.mem_of_getElem? (HPG.out p hp))⟩ HC.out.size
          obtain ⟨nk, hnk⟩ : ∃ N, (Q.map Prod.fst).length = N := ⟨_, rfl⟩
          rw [hnk] at ht ⊢
          have hm1 : Moved (fun g => g = pr + 2) wr (wr.setCell ⟨pr + 2, 4, none⟩ (.slice ka nk kc)) := Moved.setCell (S := fun g => g = pr + 2) (p := ⟨pr + 2, 4, none⟩) (Moved.refl _ wr) (fun _ => rfl) _
          have hm : Moved (fun g => g = pr + 2) wr ((wr.setCell ⟨pr + 2, 4, none⟩ (.slice ka nk kc)).setCell ⟨pr + 2, 5, none⟩ (.slice ga nl gc)) := Moved.setCell (S := fun g => g = pr + 2) (p := ⟨pr + 2, 5, none⟩) hm1 (fun _ => rfl) _
          obtain ⟨wf, hwf⟩ : ∃ W, (wr.setCell ⟨pr + 2, 4, none⟩ (.slice ka nk kc)).setCell ⟨pr + 2, 5, none⟩ (.slice ga nl gc) = W := ⟨_, rfl⟩
          have hrf : wf.heap[pr + 2]? = some (.cells #[.int .i64 17, .int .i64 n, .int .u64 u, .string s, .slice ka nk kc, .slice ga nl gc] 26 (0, 0)) := by rw [← hwf]; have h1 := heap_setCell_same wr (pr + 2) 4 _ _ (.slice ka nk kc) HROW.out; have h2 := heap_setCell_same _ (pr + 2) 5 _ _ (.slice ga nl gc) h1; simpa using h2
          rw [hwf] at hm
          have hef := hm.heap HREW.out (fun e => by omega)
          have HFN : Hid (∃ v', Ending.returned (.agg #[.int .i64 17, .int .i64 n, .int .u64 u, .string s, .slice ka nk kc, .slice ga nl gc]) = .returned v' ∧ OwnT (store6 wf (pr + 1) (.int .i64 17) (.int .i64 n) (.int .u64 u) (.string s) (.slice ka nk kc) (.slice ga nl gc)) w.heap.size (sortT (.mk 17 n u s keys l)) v' (Fresh w (store6 wf (pr + 1) (.int .i64 17) (.int .i64 n) (.int .u64 u) (.string s) (.slice ka nk kc) (.slice ga nl gc))) ∧ Grew w (store6 wf (pr + 1) (.int .i64 17) (.int .i64 n) (.int .u64 u) (.string s) (.slice ka nk kc) (.slice ga nl gc))) := by
              have h2 := HZ2.out
              have hmz := hm.size
              rw [HST.out]
              exact own_ret HPR.out (by omega) ((ht.kept hm (fun g hg e => by have h1 := hg.1; omega)).mono (fun g hg => ⟨hg.1, by have h1 := hg.2; omega⟩)) (Moved.fresh HGA.out hm (fun g e => by have h1 := HPR.out; omega)) _ _ _ _ _ _
          have o0 := row_cellT HROW.out 0 _ rfl
          have o1 := row_cellT HROW.out 1 _ rfl
          have o2 := row_cellT HROW.out 2 _ rfl
          have o3 := row_cellT HROW.out 3 _ rfl
          have o4 := row_cellT HROW.out 4 _ rfl
          have o5 := row_cellT HROW.out 5 _ rfl
          have q0 := row_frozen HROW.out 0
          have q1 := row_frozen HROW.out 1
          have q2 := row_frozen HROW.out 2
          have q3 := row_frozen HROW.out 3
          have q4 := row_frozen HROW.out 4
          have q5 := row_frozen HROW.out 5
          clear hw HW ht hm hm1 hlt
          go_upto_region 20 with fail
          try rw [hwf]
          clear o0 o1 o2 o3 o4 o5 q0 q1 q2 q3 q4 q5
          have o0 := row_cellT hrf 0 _ rfl
          have o1 := row_cellT hrf 1 _ rfl
          have o2 := row_cellT hrf 2 _ rfl
          have o3 := row_cellT hrf 3 _ rfl
          have o4 := row_cellT hrf 4 _ rfl
          have o5 := row_cellT hrf 5 _ rfl
          have z0 := row_cellT hef 0 _ rfl
          have z1 := row_cellT hef 1 _ rfl
          have z2 := row_cellT hef 2 _ rfl
          have z3 := row_cellT hef 3 _ rfl
          have z4 := row_cellT hef 4 _ rfl
          have z5 := row_cellT hef 5 _ rfl
          have q0 := row_frozen hef 0
          have q1 := row_frozen hef 1
          have q2 := row_frozen hef 2
          have q3 := row_frozen hef 3
          have q4 := row_frozen hef 4
          have q5 := row_frozen hef 5
          clear hrf hef hwf
          go_wp2_with fail
          refine bodyPost_ret (v := .agg #[.int .i64 17, .int .i64 n, .int .u64 u, .string s, .slice ka nk kc, .slice ga nl gc]) (by simp [results, Try.results50, go_sem, z0, z1, z2, z3, z4, z5]) rfl ?_
          exact HFN.out
end Go.Proofs.Ytfbeepkogcmlmaa

/-
  Normal forms: Of. Conditions: the argument can be read.
-/
namespace Go.Proofs.Ytfbeepkogcmlmaa
open Go Go.ChangeShapes Go.WideShapes Go.ChangeAt Go.RowKit Go.Joins Go.Deep
set_option linter.unusedVariables false
set_option linter.unusedSimpArgs false

/-- What Of hands back. -/
def OfOut (w : World) (t : Tr) (r : Ending) (w' : World) : Prop :=
  Grew w w' ∧ ((checkE t ≠ 0 ∧ r = .returned (.tuple #[zeroNode, .int .i64 (checkE t)])) ∨ (checkE t = 0 ∧ ∃ v S, r = .returned (.tuple #[v, .int .i64 0]) ∧ OwnT w' w.heap.size (ofT (sortT t)) v S ∧ ∀ g, S g → Fresh w w' g))
set_option maxRecDepth 100000 in
set_option maxHeartbeats 4000000 in
theorem Of_any (t : Tr) (v : Value) (w : World) (hn : NodeAt w t v) (hsz : t.size ≤ 1099511627776) : Calls Try.prog 10 #[v] w fun r w' => OfOut w t r w' := by
  have HC := Lib.hid hn
  obtain ⟨k, n, u, s, a4, n4, c4, a5, n5, c5, rfl⟩ := hn.node6
  obtain ⟨N, hN⟩ : ∃ N, w.heap.size = N := ⟨_, rfl⟩
  go_enter Try.func10, Try.ntmps10
  go_wp2_with fail
  have hb1 := heap_alloc_new w (.cells #[.int .i64 k, .int .i64 n, .int .u64 u, .string s, .slice a4 n4 c4, .slice a5 n5 c5] 26)
  have hg1 := (Grew.refl w).alloc (.cells #[.int .i64 k, .int .i64 n, .int .u64 u, .string s, .slice a4 n4 c4, .slice a5 n5 c5] 26)
  have hs1 : (w.alloc (.cells #[.int .i64 k, .int .i64 n, .int .u64 u, .string s, .slice a4 n4 c4, .slice a5 n5 c5] 26)).heap.size = w.heap.size + 1 := World.size_alloc _ _
  generalize (w.alloc (.cells #[.int .i64 k, .int .i64 n, .int .u64 u, .string s, .slice a4 n4 c4, .slice a5 n5 c5] 26)) = w1 at *
  have hb2 := heap_alloc_new w1 (.cells #[.int .i64 0, .int .i64 0, .int .u64 0, .string ⟨#[]⟩, .slice none 0 0, .slice none 0 0] 26)
  have hg2 := (Grew.refl w1).alloc (.cells #[.int .i64 0, .int .i64 0, .int .u64 0, .string ⟨#[]⟩, .slice none 0 0, .slice none 0 0] 26)
  rw [hs1, hN] at hb2
  generalize (w1.alloc (.cells #[.int .i64 0, .int .i64 0, .int .u64 0, .string ⟨#[]⟩, .slice none 0 0, .slice none 0 0] 26)) = w2 at *
  rw [hN] at hb1
  replace hb1 := hg2.heap hb1
  have hG := hg1.trans hg2
  have HN := Lib.hid hN
  have H2 : Hid (N + 1 < w2.heap.size ∧ w.heap.size ≤ w2.heap.size) := ⟨(Array.getElem?_eq_some_iff.1 hb2).1, hG.size⟩
  clear hs1 hg1 hg2 hn hN
  refine (sorted_any t _ _ (HC.out.grew hG) hsz).mono ?_
  intro r w3 hs
  obtain ⟨hg3, hs⟩ := hs
  replace hG := hG.trans hg3
  replace hb2 := hg3.heap hb2
  have hsz2 := (Array.getElem?_eq_some_iff.1 hb2).1
  have HG := Lib.hid hG
  have HG3 := Lib.hid hg3
  have HB := Lib.hid hb2
  clear hG hb1
  obtain ⟨e, he⟩ : ∃ e, checkE t = e := ⟨_, rfl⟩
  have HE := Lib.hid he
  rw [he] at hs
  rcases hs with ⟨h0, rfl⟩ | ⟨h0, sv, S, rfl, ho, hf⟩
  · have hb : (e == 0) = false := by simpa using h0
    have H0 := Lib.hid h0
    clear he h0 hg3
    rw [show zeroNode = .agg #[.int .i64 0, .int .i64 0, .int .u64 0, .string ⟨#[]⟩, .slice none 0 0, .slice none 0 0] from rfl]
    go_upto_region 2 with fail
    have hg4 := (Grew.refl w3).alloc (.cells #[.int .i64 0, .int .i64 0, .int .u64 0, .string ⟨#[]⟩, .slice none 0 0, .slice none 0 0] 26)
    have hb4 := hg4.heap HB.out
    have HG4 := Lib.hid (HG.out.trans hg4)
    generalize (w3.alloc (.cells #[.int .i64 0, .int .i64 0, .int .u64 0, .string ⟨#[]⟩, .slice none 0 0, .slice none 0 0] 26)) = w4 at *
    have z0 := row_cellT hb4 0 _ rfl
    have z1 := row_cellT hb4 1 _ rfl
    have z2 := row_cellT hb4 2 _ rfl
    have z3 := row_cellT hb4 3 _ rfl
    have z4 := row_cellT hb4 4 _ rfl
    have z5 := row_cellT hb4 5 _ rfl
    have f0 := row_frozen hb4 0
    have f1 := row_frozen hb4 1
    have f2 := row_frozen hb4 2
    have f3 := row_frozen hb4 3
    have f4 := row_frozen hb4 4
    have f5 := row_frozen hb4 5
    have HFIN : Hid (OfOut w t (.returned (.tuple #[.agg #[.int .i64 0, .int .i64 0, .int .u64 0, .string ⟨#[]⟩, .slice none 0 0, .slice none 0 0], .int .i64 e])) (store6 w4 (N + 1) (.int .i64 0) (.int .i64 0) (.int .u64 0) (.string ⟨#[]⟩) (.slice none 0 0) (.slice none 0 0))) := by
      have hN := HN.out
      have hT := moved_store6 w4 (N + 1) (.int .i64 0) (.int .i64 0) (.int .u64 0) (.string ⟨#[]⟩) (.slice none 0 0) (.slice none 0 0)
      exact ⟨Moved.fresh HG4.out hT (fun g e => by omega), .inl ⟨by rw [HE.out]; exact H0.out, by rw [HE.out]; rfl⟩⟩
    clear hb4 hg4
    go_wp2_with fail
    refine bodyPost_ret (v := .tuple #[.agg #[.int .i64 0, .int .i64 0, .int .u64 0, .string ⟨#[]⟩, .slice none 0 0, .slice none 0 0], .int .i64 e]) (by simp [results, Try.results10, go_sem, z0, z1, z2, z3, z4, z5]) rfl ?_
    exact HFIN.out
  · subst h0
    have HO := Lib.hid (And.intro ho hf)
    obtain ⟨k', n', u', s', a4', n4', c4', a5', n5', c5', rfl⟩ := ho.node6
    clear ho hf he hg3
    go_upto_region 4 with fail
    have hg4 := (Grew.refl w3).alloc (.cells #[.int .i64 k', .int .i64 n', .int .u64 u', .string s', .slice a4' n4' c4', .slice a5' n5' c5'] 26)
    have hb4 := hg4.heap HB.out
    have hv4 := heap_alloc_new w3 (.cells #[.int .i64 k', .int .i64 n', .int .u64 u', .string s', .slice a4' n4' c4', .slice a5' n5' c5'] 26)
    have hs4 : (w3.alloc (.cells #[.int .i64 k', .int .i64 n', .int .u64 u', .string s', .slice a4' n4' c4', .slice a5' n5' c5'] 26)).heap.size = w3.heap.size + 1 := World.size_alloc _ _
    obtain ⟨M, hM⟩ : ∃ M, w3.heap.size = M := ⟨_, rfl⟩
    have HG4 := Lib.hid (HG.out.trans hg4)
    have HO4 : Hid (OwnT (w3.alloc (.cells #[.int .i64 k', .int .i64 n', .int .u64 u', .string s', .slice a4' n4' c4', .slice a5' n5' c5'] 26)) w2.heap.size (sortT t) (.agg #[.int .i64 k', .int .i64 n', .int .u64 u', .string s', .slice a4' n4' c4', .slice a5' n5' c5']) S ∧ ∀ g, S g → w2.heap.size ≤ g ∧ g < M) := ⟨HO.out.1.grew hg4, fun g hg => by have := HO.out.2 g hg; rw [← hM]; exact this⟩
    generalize (w3.alloc (.cells #[.int .i64 k', .int .i64 n', .int .u64 u', .string s', .slice a4' n4' c4', .slice a5' n5' c5'] 26)) = w4 at *
    rw [hM] at hv4 hs4 ⊢
    have d0 := row_cellT hv4 0 _ rfl
    have d1 := row_cellT hv4 1 _ rfl
    have d2 := row_cellT hv4 2 _ rfl
    have d3 := row_cellT hv4 3 _ rfl
    have d4 := row_cellT hv4 4 _ rfl
    have d5 := row_cellT hv4 5 _ rfl
    have HH := Lib.hid (And.intro hb4 (And.intro hv4 (And.intro hs4 (And.intro hM hsz2))))
    clear hb4 hv4 hs4 hM hg4 hsz2
    have HFEW : Hid (Few (sortT t)) := few_val _ _ 0 (Nat.le_refl _) (by have := (check_val.1 HE.out); rw [(val_sort t.size t 0 (Nat.le_refl _) this.2).2]; exact this.1) (val_sort t.size t 0 (Nat.le_refl _) (check_val.1 HE.out).2).1
    have H2N : Hid (N + 1 < w2.heap.size ∧ w2.heap.size ≤ M ∧ w.heap.size ≤ w2.heap.size) := ⟨H2.out.1, by rw [← HH.out.2.2.2.1]; exact HG3.out.size, H2.out.2⟩
    go_region_with (first
      | (go_at_call 29; refine (forms_any _).mono ?_; rintro r w5 ⟨bq, rfl, hbq, hmq, hgq⟩; replace hgq := Grew.trans (Grew.refl w4).drew hgq; have e0 := hgq.cell d0; have e1 := hgq.cell d1; have e2 := hgq.cell d2; have e3 := hgq.cell d3; have e4 := hgq.cell d4; have e5 := hgq.cell d5)
      | (go_at_call 28; refine (of_any (sortT t).size (sortT t) (Nat.le_refl _) HFEW.out _ w5 w2.heap.size bq S (HO4.out.1.grew hgq) ?_ ?_ hmq ?_).mono ?_; exact Nat.le_trans H2N.out.2.1 (Nat.le_trans (by have := HH.out.2.2.1; omega) hgq.size); exact fun g hg => Nat.lt_of_lt_of_le (HO4.out.2 g hg).2 (Nat.le_trans (by have := HH.out.2.2.1; omega) hgq.size); exact fun h => absurd (HO4.out.2 bq h).2 (by have := HH.out.2.2.1; have h6 : w4.heap.size ≤ bq := hbq; omega); rintro r w6 ⟨v6, S6, rfl, ho6, hm6, hz6, hf6⟩; obtain ⟨rk, rn, ru, rs, ra4, rn4, rc4, ra5, rn5, rc5, rfl⟩ := ho6.node6; have hb6 := hm6.heap (hgq.heap HH.out.1) (fun h => by have h7 := (HO4.out.2 _ h).1; have h8 := H2N.out.1; omega); have z0 := row_cellT hb6 0 _ rfl; have z1 := row_cellT hb6 1 _ rfl; have z2 := row_cellT hb6 2 _ rfl; have z3 := row_cellT hb6 3 _ rfl; have z4 := row_cellT hb6 4 _ rfl; have z5 := row_cellT hb6 5 _ rfl; have f0 := row_frozen hb6 0; have f1 := row_frozen hb6 1; have f2 := row_frozen hb6 2; have f3 := row_frozen hb6 3; have f4 := row_frozen hb6 4; have f5 := row_frozen hb6 5))
    all_goals
      have HFIN : Hid (OfOut w t (.returned (.tuple #[.agg #[.int .i64 rk, .int .i64 rn, .int .u64 ru, .string rs, .slice ra4 rn4 rc4, .slice ra5 rn5 rc5], .int .i64 0])) (store6 w6 (N + 1) (.int .i64 rk) (.int .i64 rn) (.int .u64 ru) (.string rs) (.slice ra4 rn4 rc4) (.slice ra5 rn5 rc5))) := by
        have hN := HN.out
        obtain ⟨q1, q2, q3⟩ := H2N.out
        obtain ⟨_, _, hs4, _, _⟩ := HH.out
        have hg6 : Grew w w6 := Moved.fresh (HG4.out.trans hgq) hm6 (fun g hg => by have := (HO4.out.2 g hg).1; omega)
        have hsq := hgq.size
        have hT : Moved (fun k => k = N + 1) w6 (store6 w6 (N + 1) (.int .i64 rk) (.int .i64 rn) (.int .u64 ru) (.string rs) (.slice ra4 rn4 rc4) (.slice ra5 rn5 rc5)) := moved_store6 w6 (N + 1) _ _ _ _ _ _
        have hsz := hT.size
        have hmz := hm6.size
        refine ⟨Moved.fresh hg6 hT (fun g e => by omega), .inr ⟨HE.out, _, S6, rfl, (ho6.kept hT (fun g hg e => ?_)).base q3, fun g hg => ?_⟩⟩
        · rcases hf6 g hg with h | h
          · have := (HO4.out.2 g h).1; omega
          · have := h.1; omega
        · rcases hf6 g hg with h | h
          · have := HO4.out.2 g h; exact ⟨by omega, by omega⟩
          · exact ⟨by have := h.1; omega, by have := h.2; omega⟩
    all_goals clear hgq hm6 hz6 hf6 ho6 hb6 hmq hbq e0 e1 e2 e3 e4 e5
    all_goals go_wp2_with fail
    all_goals refine bodyPost_ret (v := .tuple #[.agg #[.int .i64 rk, .int .i64 rn, .int .u64 ru, .string rs, .slice ra4 rn4 rc4, .slice ra5 rn5 rc5], .int .i64 0]) (by simp [results, Try.results10, go_sem, z0, z1, z2, z3, z4, z5]) rfl ?_
    all_goals exact HFIN.out
end Go.Proofs.Ytfbeepkogcmlmaa

/-
  Trees: the program's Same (slices.Equal, slices.EqualFunc). Conditions: both nodes lie in memory.
-/
namespace Go.Proofs.Ytfbeepkogcmlmaa
open Go Go.ChangeShapes Go.WideShapes Go.ChangeAt Go.RowKit Go.Joins Go.Deep
set_option linter.unusedVariables false
set_option linter.unusedSimpArgs false

set_option maxRecDepth 100000 in
set_option maxHeartbeats 4000000 in
theorem sequal_any (a b : List ByteArray) (v u : Value) (w : World) (ha : StrsAt w v a) (hb : StrsAt w u b) :
    Calls Try.prog 41 #[v, u] w fun r w' => r = .returned (.bool (decide (a = b))) ∧ Grew w w' := by
  have HA := Lib.hid ha
  have HB := Lib.hid hb
  obtain ⟨aa, ac, rfl, hla, hac, hz1, hz2⟩ := ha
  obtain ⟨ba, bc, rfl, hlb, hbc, hz3, hz4⟩ := hb
  unfold lenok at hac hbc
  have hal : a.length ≤ 9223372036854775807 := by omega
  have hbl : b.length ≤ 9223372036854775807 := by omega
  clear hz1 hz2 hz3 hz4 hac hbc hla hlb
  by_cases hl : a.length = b.length
  · have HL := Lib.hid hl
    rw [← hl] at HB ⊢
    clear hl hbl
    go_enter Try.func41, Try.ntmps41
    go_wp2_with fail
    go_loopw [13] (fun i wr => ∃ k : Nat, k ≤ a.length ∧ i = .int .i64 k ∧ Hid (a.take k = b.take k ∧ Grew w wr)) (fun i _ => a.length - (intOf i).toNat)
    case atStart => exact ⟨0, Nat.zero_le _, rfl, by show _ ∧ _; exact ⟨by simp, Grew.refl _⟩⟩
    case round =>
      obtain ⟨k, hk, rfl, HW⟩ := hrel
      by_cases hlt : k < a.length
      · obtain ⟨x, hx⟩ : ∃ x, a[k]? = some x := ⟨_, List.getElem?_eq_getElem hlt⟩
        have hltb : k < b.length := by have := HL.out; omega
        obtain ⟨y, hy⟩ : ∃ y, b[k]? = some y := ⟨_, List.getElem?_eq_getElem hltb⟩
        obtain ⟨ax, ab, aoff, rfl, hca⟩ : lenok x.size ∧ ∃ b off, aa = some ⟨b, off, none⟩ ∧ w.cell? ⟨b, off + k, none⟩ = some (.string x) := by
          obtain ⟨a', c', e, _, _, _, h⟩ := HA.out
          injection e with e1 e2 e3
          subst e1
          exact h k x hx
        obtain ⟨bx, bb, boff, rfl, hcb⟩ : lenok y.size ∧ ∃ b off, ba = some ⟨b, off, none⟩ ∧ w.cell? ⟨b, off + k, none⟩ = some (.string y) := by
          obtain ⟨a', c', e, _, _, _, h⟩ := HB.out
          injection e with e1 e2 e3
          subst e1
          exact h k y hy
        have c0 := HW.out.2.cell hca
        have c1 := HW.out.2.cell hcb
        have HXY := Lib.hid (And.intro hx hy)
        clear hx hy hca hcb ax bx
        have hlti : (k : Int) < a.length := by omega
        by_cases hxy : x = y
        · subst hxy
          go_wp2_with fail
          go_quiet (fail)
          go_wp2
          go_roundw
          case rel => exact ⟨k + 1, by omega, by go_num, by
            show _ ∧ _
            obtain ⟨h1, h2⟩ := HXY.out
            exact ⟨by rw [List.take_add_one, List.take_add_one, HW.out.1, h1, h2], HW.out.2.drewN _⟩⟩
          case measure => simp [intOf]; omega
        · have hne : Hid (¬ a = b) := fun e => hxy (by
            obtain ⟨h1, h2⟩ := HXY.out
            rw [e, h2] at h1
            injection h1 with h1
            exact h1.symm)
          have hbne : (x.toList == y.toList) = false := by rw [str_eq]; exact decide_eq_false hxy
          clear hxy
          go_wp2_with fail
          go_quiet (fail)
          go_wp2
          go_ret
          exact ⟨by rw [decide_eq_false hne.out]; rfl, HW.out.2.drewN _⟩
      · have ek : k = a.length := by omega
        subst ek
        have heq : Hid (a = b) := by
          show _ = _
          have h := HW.out.1
          rw [List.take_length, HL.out, List.take_length] at h
          exact h
        go_wp2
        go_ret
        exact ⟨by rw [decide_eq_true heq.out]; rfl, HW.out.2⟩
  · have hne : Hid (¬ a = b) := fun e => hl (by rw [e])
    have hb1 : ((a.length : Int) != b.length) = true := by simp; omega
    go_enter Try.func41, Try.ntmps41
    go_wp2
    go_ret
    exact ⟨by rw [decide_eq_false hne.out]; rfl, Grew.refl _⟩

/-- Same on a tree's children. -/
def SameOn (l : List Tr) : Prop := ∀ x ∈ l, ∀ (y : Tr) (v u : Value) (w : World), NodeAt w x v → NodeAt w y u → Calls Try.prog 26 #[v, u] w fun r w' => ∃ b, r = .returned (.bool b) ∧ (b = true ↔ x = y) ∧ Grew w w'
set_option maxRecDepth 100000 in
set_option maxHeartbeats 4000000 in
theorem equalfunc_any (l l2 : List Tr) (lv lv2 : Value) (vs vs2 : List Value) (w : World) (hr : RowsAt w lv vs) (hk : KidsAt w l vs) (hr2 : RowsAt w lv2 vs2) (hk2 : KidsAt w l2 vs2) (hs : SameOn l) :
    Calls Try.prog 42 #[lv, lv2, .func (.func 26) #[] #[]] w fun r w' => ∃ b, r = .returned (.bool b) ∧ (b = true ↔ l = l2) ∧ Grew w w' := by
  have HR := Lib.hid hr
  have HK := Lib.hid hk
  have HR2 := Lib.hid hr2
  have HK2 := Lib.hid hk2
  have HS := Lib.hid hs
  have hkl := hk.length
  have hkl2 := hk2.length
  obtain ⟨a, c, rfl, hlc, hc, hz1, hz2⟩ := hr
  obtain ⟨a2, c2, rfl, hlc2, hc2, hz3, hz4⟩ := hr2
  unfold lenok at hc hc2
  rw [hkl] at HR hlc ⊢
  rw [hkl2] at HR2 hlc2 ⊢
  have hlen : l.length ≤ 9223372036854775807 := by omega
  have hlen2 : l2.length ≤ 9223372036854775807 := by omega
  clear hz1 hz2 hz3 hz4 hk hk2 hkl hkl2 hlc hc hlc2 hc2 hs
  by_cases hl : l.length = l2.length
  · have HL := Lib.hid hl
    rw [← hl] at HR2 ⊢
    clear hl hlen2
    go_enter Try.func42, Try.ntmps42
    go_wp2_with fail
    go_loopw [17] (fun i wr => ∃ k : Nat, k ≤ l.length ∧ i = .int .i64 k ∧ Hid (l.take k = l2.take k ∧ Grew w wr)) (fun i _ => l.length - (intOf i).toNat)
    case atStart => exact ⟨0, Nat.zero_le _, rfl, by show _ ∧ _; exact ⟨by simp, Grew.refl _⟩⟩
    case round =>
      obtain ⟨k, hk, rfl, HW⟩ := hrel
      by_cases hlt : k < l.length
      · obtain ⟨x, hx⟩ : ∃ x, l[k]? = some x := ⟨_, List.getElem?_eq_getElem hlt⟩
        have hltb : k < l2.length := by have := HL.out; omega
        obtain ⟨y, hy⟩ : ∃ y, l2[k]? = some y := ⟨_, List.getElem?_eq_getElem hltb⟩
        obtain ⟨xv, hxv, hnx⟩ := HK.out.get hx
        obtain ⟨yv, hyv, hny⟩ := HK2.out.get hy
        obtain ⟨b, off, rfl, hc6⟩ : ∃ b off, a = some ⟨b, off, none⟩ ∧ Cells6 wr b (off + k * 6) xv := by
          obtain ⟨a, c, e, _, _, _, h⟩ := HR.out
          injection e with e1 e2 e3
          subst e1
          obtain ⟨b, off, e, h6⟩ := h k xv hxv
          exact ⟨b, off, e, h6.grew HW.out.2⟩
        obtain ⟨b', off', rfl, hd6⟩ : ∃ b off, a2 = some ⟨b, off, none⟩ ∧ Cells6 wr b (off + k * 6) yv := by
          obtain ⟨a, c, e, _, _, _, h⟩ := HR2.out
          injection e with e1 e2 e3
          subst e1
          obtain ⟨b, off, e, h6⟩ := h k yv hyv
          exact ⟨b, off, e, h6.grew HW.out.2⟩
        obtain ⟨xk, xn, xu, xs, xa4, xn4, xc4, xa5, xn5, xc5, rfl⟩ := hnx.node6
        obtain ⟨yk, yn, yu, ys, ya4, yn4, yc4, ya5, yn5, yc5, rfl⟩ := hny.node6
        obtain ⟨e0, e1, e2, e3, e4, e5⟩ := hc6.get
        obtain ⟨f0, f1, f2, f3, f4, f5⟩ := hd6.get
        have g0 := fun o => ((Grew.refl wr).alloc o).cell f0
        have g1 := fun o => ((Grew.refl wr).alloc o).cell f1
        have g2 := fun o => ((Grew.refl wr).alloc o).cell f2
        have g3 := fun o => ((Grew.refl wr).alloc o).cell f3
        have g4 := fun o => ((Grew.refl wr).alloc o).cell f4
        have g5 := fun o => ((Grew.refl wr).alloc o).cell f5
        have HNX := Lib.hid (And.intro hnx hny)
        have HX := Lib.hid (And.intro hx hy)
        have HXM := Lib.hid (List.mem_of_getElem? hx)
        clear hc6 hd6 hx hxv hnx hy hyv hny f0 f1 f2 f3 f4 f5
        have hlti : (k : Int) < l.length := by omega
        go_wp2_with fail
        refine (HS.out x HXM.out y _ _ _ (HNX.out.1.grew (HW.out.2.trans (((Grew.refl wr).alloc _).alloc _))) (HNX.out.2.grew (HW.out.2.trans (((Grew.refl wr).alloc _).alloc _)))).mono ?_
        rintro r w3 ⟨bb, rfl, hbb, hg⟩
        have HG := Lib.hid (HW.out.2.trans (Grew.trans (((Grew.refl wr).alloc _).alloc _) hg))
        clear hg
        cases bb
        · have HBB : Hid (¬ x = y) := fun e => absurd (hbb.2 e) (by decide)
          clear hbb
          go_wp2_with fail
          go_ret
          refine ⟨false, rfl, ⟨fun h => absurd h (by decide), fun h => ?_⟩, HG.out⟩
          obtain ⟨h1, h2⟩ := HX.out
          rw [h, h2] at h1
          injection h1 with h1
          exact absurd h1.symm HBB.out
        · have HBB : Hid (x = y) := hbb.1 rfl
          clear hbb
          go_wp2_with fail
          go_roundw
          case rel => exact ⟨k + 1, by omega, by go_num, by
            show _ ∧ _
            obtain ⟨h1, h2⟩ := HX.out
            exact ⟨by rw [List.take_add_one, List.take_add_one, HW.out.1, h1, h2, HBB.out], HG.out⟩⟩
          case measure => simp [intOf]; omega
      · have ek : k = l.length := by omega
        subst ek
        have heq : Hid (l = l2) := by
          show _ = _
          have h := HW.out.1
          rw [List.take_length, HL.out, List.take_length] at h
          exact h
        go_wp2
        go_ret
        exact ⟨true, rfl, ⟨fun _ => heq.out, fun _ => rfl⟩, HW.out.2⟩
  · have hne : Hid (¬ l = l2) := fun e => hl (by rw [e])
    have hb1 : ((l.length : Int) != l2.length) = true := by simp; omega
    go_enter Try.func42, Try.ntmps42
    go_wp2
    go_ret
    exact ⟨false, rfl, ⟨fun h => absurd h (by decide), fun h => absurd h hne.out⟩, Grew.refl _⟩
-- SAME
set_option maxRecDepth 100000 in
set_option maxHeartbeats 4000000 in
theorem same_any : ∀ (m : Nat) (t : Tr), t.size ≤ m → ∀ (t2 : Tr) (v v2 : Value) (w : World), NodeAt w t v → NodeAt w t2 v2 →
    Calls Try.prog 26 #[v, v2] w fun r w' => ∃ b, r = .returned (.bool b) ∧ (b = true ↔ t = t2) ∧ Grew w w' := by
  intro m
  induction m with
  | zero => intro t ht; have := t.size_pos; omega
  | succ m ih =>
  intro t ht t2 v v2 w hn hn2
  obtain ⟨k, n, u, s, keys, l⟩ := t
  obtain ⟨k2, n2, u2, s2, keys2, l2⟩ := t2
  simp only [NodeAt] at hn hn2
  obtain ⟨hb, kv, lv, vs, rfl, hks, hrows, hkids⟩ := hn
  obtain ⟨hb2, kv2, lv2, vs2, rfl, hks2, hrows2, hkids2⟩ := hn2
  have HKS := Lib.hid hks
  have HKS2 := Lib.hid hks2
  have HR := Lib.hid (And.intro hrows hkids)
  have HR2 := Lib.hid (And.intro hrows2 hkids2)
  obtain ⟨a4, c4, rfl, hx1, hx2, hx3, hx4⟩ := hks
  obtain ⟨b4, d4, rfl, hy1, hy2, hy3, hy4⟩ := hks2
  clear hx1 hx2 hx3 hx4 hy1 hy2 hy3 hy4
  obtain ⟨a5, c5, rfl, hll, hc5, hx3, hx4⟩ := hrows
  obtain ⟨b5, d5, rfl, hll2, hd5, hy3, hy4⟩ := hrows2
  have hS : Hid (SameOn l) := fun x hx y v u w h1 h2 => ih x (by have := size_mem hx; simp only [Tr.size] at ht; omega) y v u w h1 h2
  clear hx3 hx4 hll hy3 hy4 hll2 hc5 hd5 hb hb2 hkids hkids2 ih ht
  by_cases h0 : k = k2
  rotate_left
  · have hne : Hid (¬ (Tr.mk k n u s keys l = Tr.mk k2 n2 u2 s2 keys2 l2)) := fun e => h0 (by injection e)
    have hB : (k == k2) = false := by simp [h0]
    clear h0
    go_enter Try.func26, Try.ntmps26
    go_wp2_with fail
    go_ret
    exact ⟨false, rfl, ⟨fun h => absurd h (by decide), fun h => absurd h hne.out⟩, ((Grew.refl w).alloc _).alloc _⟩
  subst h0
  by_cases h1 : n = n2
  rotate_left
  · have hne : Hid (¬ (Tr.mk k n u s keys l = Tr.mk k n2 u2 s2 keys2 l2)) := fun e => h1 (by injection e)
    have hB : (n == n2) = false := by simp [h1]
    clear h1
    go_enter Try.func26, Try.ntmps26
    go_wp2_with fail
    go_ret
    exact ⟨false, rfl, ⟨fun h => absurd h (by decide), fun h => absurd h hne.out⟩, ((Grew.refl w).alloc _).alloc _⟩
  subst h1
  by_cases h2 : u = u2
  rotate_left
  · have hne : Hid (¬ (Tr.mk k n u s keys l = Tr.mk k n u2 s2 keys2 l2)) := fun e => h2 (by injection e)
    have hB : (u == u2) = false := by simp [h2]
    clear h2
    go_enter Try.func26, Try.ntmps26
    go_wp2_with fail
    go_ret
    exact ⟨false, rfl, ⟨fun h => absurd h (by decide), fun h => absurd h hne.out⟩, ((Grew.refl w).alloc _).alloc _⟩
  subst h2
  by_cases h3 : s = s2
  rotate_left
  · have hne : Hid (¬ (Tr.mk k n u s keys l = Tr.mk k n u s2 keys2 l2)) := fun e => h3 (by injection e)
    have hB : (s.toList == s2.toList) = false := by rw [str_eq]; exact decide_eq_false h3
    clear h3
    go_enter Try.func26, Try.ntmps26
    go_wp2_with fail
    go_ret
    exact ⟨false, rfl, ⟨fun h => absurd h (by decide), fun h => absurd h hne.out⟩, ((Grew.refl w).alloc _).alloc _⟩
  subst h3
  by_cases h4 : keys = keys2
  rotate_left
  · have hne : Hid (¬ (Tr.mk k n u s keys l = Tr.mk k n u s keys2 l2)) := fun e => h4 (by injection e)
    have hB : decide (keys = keys2) = false := decide_eq_false h4
    have HBD := Lib.hid hB
    clear h4 hB
    go_enter Try.func26, Try.ntmps26
    go_wp2_with fail
    have hh := sequal_any keys keys2 _ _ _ (HKS.out.grew (((Grew.refl w).alloc (.cells #[.int .i64 k, .int .i64 n, .int .u64 u, .string s, .slice a4 keys.length c4, .slice a5 vs.length c5] 26)).alloc (.cells #[.int .i64 k, .int .i64 n, .int .u64 u, .string s, .slice b4 keys2.length d4, .slice b5 vs2.length d5] 26))) (HKS2.out.grew (((Grew.refl w).alloc (.cells #[.int .i64 k, .int .i64 n, .int .u64 u, .string s, .slice a4 keys.length c4, .slice a5 vs.length c5] 26)).alloc (.cells #[.int .i64 k, .int .i64 n, .int .u64 u, .string s, .slice b4 keys2.length d4, .slice b5 vs2.length d5] 26)))
    rw [HBD.out] at hh
    refine hh.mono ?_
    clear hh
    rintro r w3 ⟨rfl, hg⟩
    have HG := Lib.hid (Grew.trans (((Grew.refl w).alloc (.cells #[.int .i64 k, .int .i64 n, .int .u64 u, .string s, .slice a4 keys.length c4, .slice a5 vs.length c5] 26)).alloc (.cells #[.int .i64 k, .int .i64 n, .int .u64 u, .string s, .slice b4 keys2.length d4, .slice b5 vs2.length d5] 26)) hg)
    clear hg
    go_wp2_with fail
    go_ret
    exact ⟨false, rfl, ⟨fun h => absurd h (by decide), fun h => absurd h hne.out⟩, HG.out⟩
  subst h4
  go_enter Try.func26, Try.ntmps26
  go_wp2_with fail
  have hA1 := heap_alloc_new w (.cells #[.int .i64 k, .int .i64 n, .int .u64 u, .string s, .slice a4 keys.length c4, .slice a5 vs.length c5] 26)
  have hG1 := (Grew.refl w).alloc (.cells #[.int .i64 k, .int .i64 n, .int .u64 u, .string s, .slice a4 keys.length c4, .slice a5 vs.length c5] 26)
  have hS1 : (w.alloc (.cells #[.int .i64 k, .int .i64 n, .int .u64 u, .string s, .slice a4 keys.length c4, .slice a5 vs.length c5] 26)).heap.size = w.heap.size + 1 := World.size_alloc _ _
  generalize w.alloc (.cells #[.int .i64 k, .int .i64 n, .int .u64 u, .string s, .slice a4 keys.length c4, .slice a5 vs.length c5] 26) = w1 at *
  have hA2 := heap_alloc_new w1 (.cells #[.int .i64 k, .int .i64 n, .int .u64 u, .string s, .slice b4 keys.length d4, .slice b5 vs2.length d5] 26)
  have hG2 := (Grew.refl w1).alloc (.cells #[.int .i64 k, .int .i64 n, .int .u64 u, .string s, .slice b4 keys.length d4, .slice b5 vs2.length d5] 26)
  rw [hS1] at hA2
  generalize w1.alloc (.cells #[.int .i64 k, .int .i64 n, .int .u64 u, .string s, .slice b4 keys.length d4, .slice b5 vs2.length d5] 26) = w2 at *
  replace hA1 := hG2.heap hA1
  have HG := Lib.hid (hG1.trans hG2)
  clear hG1 hG2 hS1
  have hh := sequal_any keys keys _ _ _ (HKS.out.grew HG.out) (HKS2.out.grew HG.out)
  rw [decide_eq_true rfl] at hh
  refine hh.mono ?_
  clear hh
  rintro r w3 ⟨rfl, hg⟩
  replace hA1 := hg.heap hA1
  replace hA2 := hg.heap hA2
  replace HG := Lib.hid (HG.out.trans hg)
  have a0 := row_cellT hA1 5 _ rfl
  have b0 := row_cellT hA2 5 _ rfl
  clear hA1 hA2 hg
  go_wp2_with fail
  refine (equalfunc_any l l2 _ _ vs vs2 w3 (HR.out.1.grew HG.out) (HR.out.2.grew HG.out) (HR2.out.1.grew HG.out) (HR2.out.2.grew HG.out) hS.out).mono ?_
  rintro r w4 ⟨bb, rfl, hbb, hg⟩
  have HX := Lib.hid (And.intro hbb (HG.out.trans hg))
  clear hbb hg
  go_wp2_with fail
  go_ret
  refine ⟨bb, rfl, ⟨fun h => ?_, fun h => HX.out.1.2 (by injection h)⟩, HX.out.2⟩
  rw [HX.out.1.1 h]
end Go.Proofs.Ytfbeepkogcmlmaa

/-
  Normal forms: the small functions of the examples. Conditions: the arguments can be read.
-/
namespace Go.Proofs.Ytfbeepkogcmlmaa
open Go Go.ChangeShapes Go.WideShapes Go.ChangeAt Go.RowKit Go.Joins Go.Deep
set_option linter.unusedVariables false
set_option linter.unusedSimpArgs false

set_option maxRecDepth 100000 in
theorem num9_any (n : Int) (w : World) : Calls Try.prog 22 #[.int .i64 n] w fun r w' => r = .returned (.agg #[.int .i64 3, .int .i64 n, .int .u64 0, .string ⟨#[]⟩, .slice none 0 0, .slice none 0 0]) ∧ Grew w w' := by
  go_enter Try.func22, Try.ntmps22
  go_wp2_with fail
  have hb := heap_alloc_new w (.cells #[.int .i64 3, .int .i64 n, .int .u64 0, .string ⟨#[]⟩, .slice none 0 0, .slice none 0 0] 26)
  have hg := (Grew.refl w).alloc (.cells #[.int .i64 3, .int .i64 n, .int .u64 0, .string ⟨#[]⟩, .slice none 0 0, .slice none 0 0] 26)
  have z0 := row_cellT hb 0 _ rfl
  have z1 := row_cellT hb 1 _ rfl
  have z2 := row_cellT hb 2 _ rfl
  have z3 := row_cellT hb 3 _ rfl
  have z4 := row_cellT hb 4 _ rfl
  have z5 := row_cellT hb 5 _ rfl
  refine bodyPost_ret (v := .agg #[.int .i64 3, .int .i64 n, .int .u64 0, .string ⟨#[]⟩, .slice none 0 0, .slice none 0 0]) (by simp [results, Try.results22, go_sem, z0, z1, z2, z3, z4, z5]) rfl ?_
  exact ⟨rfl, hg⟩
set_option maxRecDepth 100000 in
theorem uns9_any (n : Int) (w : World) : Calls Try.prog 21 #[.int .u64 n] w fun r w' => r = .returned (.agg #[.int .i64 4, .int .i64 0, .int .u64 n, .string ⟨#[]⟩, .slice none 0 0, .slice none 0 0]) ∧ Grew w w' := by
  go_enter Try.func21, Try.ntmps21
  go_wp2_with fail
  have hb := heap_alloc_new w (.cells #[.int .i64 4, .int .i64 0, .int .u64 n, .string ⟨#[]⟩, .slice none 0 0, .slice none 0 0] 26)
  have hg := (Grew.refl w).alloc (.cells #[.int .i64 4, .int .i64 0, .int .u64 n, .string ⟨#[]⟩, .slice none 0 0, .slice none 0 0] 26)
  have z0 := row_cellT hb 0 _ rfl
  have z1 := row_cellT hb 1 _ rfl
  have z2 := row_cellT hb 2 _ rfl
  have z3 := row_cellT hb 3 _ rfl
  have z4 := row_cellT hb 4 _ rfl
  have z5 := row_cellT hb 5 _ rfl
  refine bodyPost_ret (v := .agg #[.int .i64 4, .int .i64 0, .int .u64 n, .string ⟨#[]⟩, .slice none 0 0, .slice none 0 0]) (by simp [results, Try.results21, go_sem, z0, z1, z2, z3, z4, z5]) rfl ?_
  exact ⟨rfl, hg⟩
set_option maxRecDepth 100000 in
theorem text9_any (s : ByteArray) (w : World) : Calls Try.prog 34 #[.string s] w fun r w' => r = .returned (.agg #[.int .i64 6, .int .i64 0, .int .u64 0, .string s, .slice none 0 0, .slice none 0 0]) ∧ Grew w w' := by
  go_enter Try.func34, Try.ntmps34
  go_wp2_with fail
  have hb := heap_alloc_new w (.cells #[.int .i64 6, .int .i64 0, .int .u64 0, .string s, .slice none 0 0, .slice none 0 0] 26)
  have hg := (Grew.refl w).alloc (.cells #[.int .i64 6, .int .i64 0, .int .u64 0, .string s, .slice none 0 0, .slice none 0 0] 26)
  have z0 := row_cellT hb 0 _ rfl
  have z1 := row_cellT hb 1 _ rfl
  have z2 := row_cellT hb 2 _ rfl
  have z3 := row_cellT hb 3 _ rfl
  have z4 := row_cellT hb 4 _ rfl
  have z5 := row_cellT hb 5 _ rfl
  refine bodyPost_ret (v := .agg #[.int .i64 6, .int .i64 0, .int .u64 0, .string s, .slice none 0 0, .slice none 0 0]) (by simp [results, Try.results34, go_sem, z0, z1, z2, z3, z4, z5]) rfl ?_
  exact ⟨rfl, hg⟩
set_option maxRecDepth 100000 in
theorem list9_any (k : Int) (a5 : Option Addr) (n5 c5 : Nat) (w : World) : Calls Try.prog 23 #[.int .i64 k, .slice a5 n5 c5] w fun r w' => r = .returned (.agg #[.int .i64 k, .int .i64 0, .int .u64 0, .string ⟨#[]⟩, .slice none 0 0, .slice a5 n5 c5]) ∧ Grew w w' := by
  go_enter Try.func23, Try.ntmps23
  go_wp2_with fail
  have hb := heap_alloc_new w (.cells #[.int .i64 k, .int .i64 0, .int .u64 0, .string ⟨#[]⟩, .slice none 0 0, .slice a5 n5 c5] 26)
  have hg := (Grew.refl w).alloc (.cells #[.int .i64 k, .int .i64 0, .int .u64 0, .string ⟨#[]⟩, .slice none 0 0, .slice a5 n5 c5] 26)
  have z0 := row_cellT hb 0 _ rfl
  have z1 := row_cellT hb 1 _ rfl
  have z2 := row_cellT hb 2 _ rfl
  have z3 := row_cellT hb 3 _ rfl
  have z4 := row_cellT hb 4 _ rfl
  have z5 := row_cellT hb 5 _ rfl
  refine bodyPost_ret (v := .agg #[.int .i64 k, .int .i64 0, .int .u64 0, .string ⟨#[]⟩, .slice none 0 0, .slice a5 n5 c5]) (by simp [results, Try.results23, go_sem, z0, z1, z2, z3, z4, z5]) rfl ?_
  exact ⟨rfl, hg⟩
end Go.Proofs.Ytfbeepkogcmlmaa
