/-
  'KeyMaps': the maps of a sorted tree have increasing keys. Conditions: none beyond the statement's own.
-/
import Derived.Test.YtnelhbkneokpiaaRows
import Derived.Test.YtnelhbkneokpiaaPF
import Derived.ProofKit
import Derived.OpenShut
import Derived.ShutString
import Derived.ChangeOld
import Derived.Below
import Derived.Lib.SmallJoins
import Derived.Deep.QuietTactic
import Derived.BigQuiet
namespace Go.Proofs.Ytnelhbkneokpiaa
open Go Go.ChangeShapes Go.WideShapes Go.ChangeAt Go.RowKit Go.Joins
open Go.ChangeMaps (open_string shut_string)
open Go.Deep
set_option linter.unusedVariables false
set_option linter.unusedSimpArgs false

theorem mem_preL {b : Nat} {p : Nat × Tr} : ∀ {l : List Tr}, p ∈ preL b l ↔ ∃ x ∈ l, p ∈ preT b x
  | [] => by simp [preL]
  | t :: r => by simp [preL, mem_preL (l := r)]
theorem fewL_of : ∀ {l : List Tr}, (∀ x ∈ l, Few x) → FewL l
  | [], _ => trivial
  | t :: r, h => ⟨h t (by simp), fewL_of fun x hx => h x (by simp [hx])⟩
theorem sort_kids {k n u : Int} {s : ByteArray} {keys : List ByteArray} {l : List Tr} : ∀ x ∈ (sortT (.mk k n u s keys l)).kids, ∃ y ∈ l, x = sortT y := by
  intro x hx
  simp only [sortT] at hx
  have hm : ∀ z ∈ sortL l, ∃ y ∈ l, z = sortT y := fun z hz => by
    rw [sortL_map] at hz
    obtain ⟨y, hy, rfl⟩ := List.mem_map.1 hz
    exact ⟨y, hy, rfl⟩
  split at hx
  · simp only [Tr.kids] at hx
    obtain ⟨p, hp, rfl⟩ := List.mem_map.1 hx
    have := (sortP_perm _).mem_iff.1 hp
    exact hm _ (List.of_mem_zip this).2
  · exact hm x hx
theorem few_sort : ∀ (m : Nat) (t : Tr), t.size ≤ m → okT t → Few (sortT t) := by
  intro m
  induction m with
  | zero => intro t h; have := t.size_pos; omega
  | succ m ih =>
    intro t h hok
    obtain ⟨k, n, u, s, keys, l⟩ := t
    simp only [okT] at hok
    have hk : FewL (sortT (.mk k n u s keys l)).kids := fewL_of fun x hx => by
      obtain ⟨y, hy, rfl⟩ := sort_kids x hx
      exact ih y (by have := size_mem hy; simp only [Tr.size] at h; omega) (okL_mem hok.2.2.2 hy)
    simp only [sortT] at hk ⊢
    split
    · rename_i h17
      rw [if_pos h17] at hk
      refine ⟨?_, ?_, hk⟩
      · rw [List.length_map, (sortP_perm _).length_eq, List.length_zip]; have := hok.2.1; omega
      · rw [List.length_map, (sortP_perm _).length_eq, List.length_zip]; have := hok.2.1; omega
    · rename_i h17
      rw [if_neg h17] at hk
      refine ⟨hok.2.1, ?_, hk⟩
      rw [sortL_map, List.length_map]; exact hok.2.2.1
theorem inc_sort : ∀ (m : Nat) (t : Tr) (b c : Nat), t.size ≤ m → (∀ p ∈ preT b t, suchB p.2 = true ∧ keyedE p.2 = 0) → ∀ p ∈ preT c (sortT t), p.2.keys.Pairwise fun x y => ltS x y = true := by
  intro m
  induction m with
  | zero => intro t b c h; have := t.size_pos; omega
  | succ m ih =>
    intro t b c h hp p hpm
    obtain ⟨k, n, u, s, keys, l⟩ := t
    have hself := hp (b, .mk k n u s keys l) (by simp [preT])
    obtain ⟨h1, h2⟩ := okN_of hself.1 hself.2
    have hcase : p = (c, sortT (.mk k n u s keys l)) ∨ p ∈ preL (c + 1) (sortT (.mk k n u s keys l)).kids := by
      have : preT c (sortT (.mk k n u s keys l)) = (c, sortT (.mk k n u s keys l)) :: preL (c + 1) (sortT (.mk k n u s keys l)).kids := by
        generalize sortT (.mk k n u s keys l) = z
        cases z; simp [preT, Tr.kids]
      rw [this] at hpm
      exact List.mem_cons.1 hpm
    rcases hcase with rfl | hk
    · simp only [sortT]
      split
      · rename_i h17
        obtain ⟨hnd, hlen⟩ := h1 h17
        simp only [Tr.keys]
        rw [List.pairwise_map]
        refine sortP_sorted _ ?_
        rw [List.map_fst_zip (by rw [sortL_map, List.length_map]; omega)]
        exact hnd
      · rename_i h17
        simp only [Tr.keys]
        rw [h2 h17]; exact List.Pairwise.nil
    · obtain ⟨x, hx, hpx⟩ := mem_preL.1 hk
      obtain ⟨y, hy, rfl⟩ := sort_kids x hx
      refine ih y (b + 1) (c + 1) (by have := size_mem hy; simp only [Tr.size] at h; omega) (fun q hq => hp q ?_) p hpx
      simp only [preT]
      exact List.mem_cons_of_mem _ (mem_preL.2 ⟨y, hy, hq⟩)
theorem sort_size : ∀ (m : Nat) (t : Tr), t.size ≤ m → (sortT t).size ≤ t.size := by
  intro m
  induction m with
  | zero => intro t h; have := t.size_pos; omega
  | succ m ih =>
    intro t h
    obtain ⟨k, n, u, s, keys, l⟩ := t
    have hL : ∀ l' : List Tr, (∀ x ∈ l', x ∈ l) → sizeL (sortL l') ≤ sizeL l' := by
      intro l'
      induction l' with
      | nil => intro _; simp [sortL]
      | cons y r ihr =>
        intro hs
        have h1 := ih y (by have := size_mem (hs y (by simp)); simp only [Tr.size] at h; omega)
        have h2 := ihr fun x hx => hs x (by simp [hx])
        simp only [sortL, sizeL]; omega
    have h0 := hL l (fun _ h => h)
    have hsub : ∀ (a : List ByteArray) (q : List Tr), sizeL ((a.zip q).map Prod.snd) ≤ sizeL q := by
      intro a q
      induction a generalizing q with
      | nil => simp [sizeL]
      | cons x a iha =>
        cases q with
        | nil => simp [sizeL]
        | cons y r => simp only [List.zip_cons_cons, List.map_cons, sizeL]; have := iha r; omega
    have hperm : ∀ {a b : List Tr}, a.Perm b → sizeL a = sizeL b := by
      intro a b hp
      induction hp with
      | nil => rfl
      | cons x _ ih => simp only [sizeL, ih]
      | swap x y l => simp only [sizeL]; omega
      | trans _ _ h1 h2 => exact h1.trans h2
    simp only [sortT]
    split
    · simp only [Tr.size]
      have h3 := hperm ((sortP_perm (keys.zip (sortL l))).map Prod.snd)
      have h4 := hsub keys (sortL l)
      omega
    · simp only [Tr.size]; omega
set_option maxRecDepth 100000 in
set_option maxHeartbeats 4000000 in
theorem keyMaps_row {H : Type} (enc : TypeId × Value → H) (W : World) (base : Nat) (v0 : Value) (d0 : DataW H) (p0 : List MemPlace) (o0 : Value.okWide Try.prog W .any base 41 v0) (k0 : DataW.Trod enc Try.prog W 0 (fun _ => true) true 41 v0 d0 p0) :
    Calls Try.prog 9 #[v0] W fun e w' => e = .returned (.bool true) ∧ Below W.heap.size W w' := by
  obtain ⟨t0, hn0⟩ := open_node o0 k0
  have HN0 := Lib.hid hn0
  obtain ⟨k, n, u, s, a4, n4, c4, a5, n5, c5, rfl⟩ := hn0.node6
  clear o0 k0 hn0
  go_enter Try.func9, Try.ntmps9
  go_wp2_with fail
  have hg0 := (Grew.refl W).alloc (.cells #[.int .i64 k, .int .i64 n, .int .u64 u, .string s, .slice a4 n4 c4, .slice a5 n5 c5] 41)
  generalize (W.alloc (.cells #[.int .i64 k, .int .i64 n, .int .u64 u, .string s, .slice a4 n4 c4, .slice a5 n5 c5] 41)) = w0 at *
  refine (cut_node_any 120 60 (by omega) (by omega) (by omega) t0 _ w0 (HN0.out.grew hg0)).mono ?_
  rintro r w1 ⟨v1, rfl, ho1, hg1⟩
  have hsz : (cutTr 60 (120 - 1) t0).1.size ≤ 120 := by have := cutTr_size 60 t0 (120 - 1); omega
  generalize (cutTr 60 (120 - 1) t0).1 = tc at *
  have HC := Lib.hid ho1.node
  obtain ⟨k', n', u', s', a4', n4', c4', a5', n5', c5', rfl⟩ := ho1.node6
  have HG1 := Lib.hid (hg0.trans hg1)
  clear ho1 hg0 hg1 HN0
  go_wp2_with fail
  refine (sorted_any tc _ w1 HC.out (by omega)).mono ?_
  rintro r w2 ⟨hg2, ⟨he, rfl⟩ | ⟨he, v2, S2, rfl, ho2, _⟩⟩
  · have HG2 := Lib.hid (HG1.out.trans hg2)
    have hb : (checkE tc == 0) = false := by simpa using he
    generalize checkE tc = ee at *
    clear hg2 he
    rw [show zeroNode = .agg #[.int .i64 0, .int .i64 0, .int .u64 0, .string ⟨#[]⟩, .slice none 0 0, .slice none 0 0] from rfl]
    go_wp2_with fail
    go_loopw [5] (fun i wr => i = .int .i64 0 ∧ Hid (Grew W wr)) (fun _ _ => 0)
    case atStart => exact ⟨rfl, HG2.out.trans ((Grew.refl _).alloc _)⟩
    case round =>
      obtain ⟨rfl, HW⟩ := hrel
      go_wp2_with fail
      refine (works07_any _).mono ?_
      rintro r w4 ⟨rfl, hg4⟩
      go_wp2_with fail
      go_ret
      exact ⟨rfl, HW.out.trans hg4⟩
  · have hok := okT_check he
    have HFEW := Lib.hid (few_sort tc.size tc (Nat.le_refl _) hok.1)
    have HINC : Hid (∀ p ∈ preT 0 (sortT tc), p.2.keys.Pairwise fun x y => ltS x y = true) := inc_sort tc.size tc 0 0 (Nat.le_refl _) (fun p hp => ((checkL_zero _ 0 he).2 p hp).2)
    have hs2 : (sortT tc).size ≤ 120 := Nat.le_trans (sort_size tc.size tc (Nat.le_refl _)) hsz
    have hn2 := ho2.node
    generalize sortT tc = ts at *
    have HN2 := Lib.hid hn2
    obtain ⟨yk, yn, yu, ys, ya4, yn4, yc4, ya5, yn5, yc5, rfl⟩ := ho2.node6
    have HG2 := Lib.hid (HG1.out.trans hg2)
    have hz2 : ts.size ≤ 120 := hs2
    clear hg2 he hok hn2 ho2
    go_wp2_with fail
    have hb3 := heap_alloc_new w2 (.cells #[.int .i64 yk, .int .i64 yn, .int .u64 yu, .string ys, .slice ya4 yn4 yc4, .slice ya5 yn5 yc5] 41)
    have hg3 := (Grew.refl w2).alloc (.cells #[.int .i64 yk, .int .i64 yn, .int .u64 yu, .string ys, .slice ya4 yn4 yc4, .slice ya5 yn5 yc5] 41)
    generalize (w2.alloc (.cells #[.int .i64 yk, .int .i64 yn, .int .u64 yu, .string ys, .slice ya4 yn4 yc4, .slice ya5 yn5 yc5] 41)) = w3 at *
    obtain ⟨N, hN⟩ : ∃ N, w2.heap.size = N := ⟨_, rfl⟩
    rw [hN] at hb3 ⊢
    have HB3 := Lib.hid hb3
    have HN3 := Lib.hid (HN2.out.grew hg3)
    have HG3 := Lib.hid (HG2.out.trans hg3)
    clear hb3 hg3 hN HN2 HG2
    go_loopw [5] (fun i wr => ∃ q : Nat, q ≤ 120 ∧ i = .int .i64 q ∧ Hid (Grew w3 wr)) (fun i _ => 121 - (intOf i).toNat)
    case atStart => exact ⟨0, by omega, rfl, Grew.refl _⟩
    case round =>
      obtain ⟨q, hq, rfl, HW⟩ := hrel
      have hbw := HW.out.heap HB3.out
      have d0 := row_cellT hbw 0 _ rfl
      have d1 := row_cellT hbw 1 _ rfl
      have d2 := row_cellT hbw 2 _ rfl
      have d3 := row_cellT hbw 3 _ rfl
      have d4 := row_cellT hbw 4 _ rfl
      have d5 := row_cellT hbw 5 _ rfl
      clear hbw
      go_wp2_with fail
      refine (size_any ts _ wr (HN3.out.grew HW.out) (by omega)).mono ?_
      rintro r w4 ⟨rfl, hg4⟩
      replace d0 := hg4.cell d0
      replace d1 := hg4.cell d1
      replace d2 := hg4.cell d2
      replace d3 := hg4.cell d3
      replace d4 := hg4.cell d4
      replace d5 := hg4.cell d5
      have HG4 := Lib.hid (HW.out.trans hg4)
      clear hg4
      by_cases hqs : q < ts.size
      · have hqi : (q : Int) < ts.size := by omega
        have hqd : decide ((q : Int) < ts.size) = true := decide_eq_true hqi
        have hq130 : (q : Int) < 130 := by omega
        go_wp2_with fail
        refine (at_any ts q (by omega) _ w4 (HN3.out.grew HG4.out) HFEW.out (by omega)).mono ?_
        rintro r w5 ⟨hg5, ⟨b, x, xv, hx, rfl, hnx⟩ | ⟨hx, _⟩⟩
        rotate_left
        · rw [List.getElem?_eq_none_iff, preT_length] at hx; omega
        have HKS := Lib.hid (HINC.out _ (List.mem_of_getElem? hx))
        obtain ⟨xk, xn, xu, xs, keys, xl⟩ := x
        simp only [NodeAt] at hnx
        obtain ⟨_, kv, lv, vs, rfl, hks, hrl, _⟩ := hnx
        obtain ⟨ka, kc, rfl⟩ := hks.form
        obtain ⟨la, lc, rfl⟩ := hrl.form
        have hkl : keys.length ≤ 9223372036854775807 := by
          obtain ⟨_, _, e, h1, h2, _⟩ := hks
          cases e
          unfold lenok at h2; omega
        have HKV := Lib.hid hks
        have HG5 := Lib.hid (HG4.out.trans hg5)
        clear hx hks hrl hg5 d0 d1 d2 d3 d4 d5 HG4
        go_wp2_with fail
        have hb6 := heap_alloc_new w5 (.cells #[.int .i64 xk, .int .i64 xn, .int .u64 xu, .string xs, .slice ka keys.length kc, .slice la vs.length lc] 41)
        have hg6 := (Grew.refl w5).alloc (.cells #[.int .i64 xk, .int .i64 xn, .int .u64 xu, .string xs, .slice ka keys.length kc, .slice la vs.length lc] 41)
        generalize (w5.alloc (.cells #[.int .i64 xk, .int .i64 xn, .int .u64 xu, .string xs, .slice ka keys.length kc, .slice la vs.length lc] 41)) = w6 at *
        obtain ⟨N6, hN6⟩ : ∃ N, w5.heap.size = N := ⟨_, rfl⟩
        rw [hN6] at hb6 ⊢
        have HB6 := Lib.hid hb6
        have HKV6 := Lib.hid (HKV.out.grew hg6)
        have HG6 := Lib.hid (HG5.out.trans hg6)
        clear hb6 hg6 hN6 HKV HG5
        go_loopw [8] (fun i wr2 => ∃ k : Nat, (k ≤ keys.length ∨ k = 1) ∧ 1 ≤ k ∧ i = .int .i64 k ∧ Hid (Grew w6 wr2)) (fun i _ => keys.length + 1 - (intOf i).toNat)
        case atStart => exact ⟨1, .inr rfl, Nat.le_refl _, rfl, Grew.refl _⟩
        case round =>
          obtain ⟨k, hk, hk1, rfl, HV⟩ := hrel
          have d4 := row_cellT (HV.out.heap HB6.out) 4 _ rfl
          by_cases hkl2 : k < keys.length
          · obtain ⟨j, rfl⟩ : ∃ j, k = j + 1 := ⟨k - 1, by omega⟩
            obtain ⟨y, hy⟩ : ∃ y, keys[j]? = some y := ⟨_, List.getElem?_eq_getElem (by omega)⟩
            obtain ⟨z, hz⟩ : ∃ z, keys[j + 1]? = some z := ⟨_, List.getElem?_eq_getElem hkl2⟩
            have hlt2 : ltS y z = true := by
              have hj := (List.getElem?_eq_some_iff.1 hy)
              have hj2 := (List.getElem?_eq_some_iff.1 hz)
              have := List.pairwise_iff_getElem.1 HKS.out j (j + 1) hj.1 hj2.1 (by omega)
              rwa [show (Tr.mk xk xn xu xs keys xl).keys[j]'hj.1 = y from hj.2, show (Tr.mk xk xn xu xs keys xl).keys[j + 1]'hj2.1 = z from hj2.2] at this
            obtain ⟨_, _, ee, _, _, _, hcell⟩ := HKV6.out
            cases ee
            obtain ⟨_, b1, o1, e2, hc⟩ := hcell j y hy
            obtain ⟨_, b2, o2, e3, hc2⟩ := hcell (j + 1) z hz
            subst e2
            cases e3
            have c1 := HV.out.cell hc
            have c2 := HV.out.cell hc2
            have hw1 : IntKind.i64.wrap ((j : Int) + 1 - 1) = j := by rw [IntKind.wrap_i64]; omega
            have hji : (j : Int) + 1 < keys.length := by omega
            have hji2 : (j : Int) < keys.length := by omega
            have hcall := fun w => kless_any y z w
            rw [hlt2] at hcall
            have HCALL := Lib.hid hcall
            clear hcell hc hc2 hy hz hcall hlt2
            go_wp2_with fail
            go_quiet ((go_at_call 16; exact Calls.quiet_of_same ((HCALL.out _).mono fun _ _ h => ⟨h.1, h.2.symm⟩)))
            go_wp2_with fail
            go_roundw
            case rel => exact ⟨j + 1 + 1, by omega, by omega, by go_num, HV.out.drewN _⟩
            case measure => simp [intOf]; omega
          · have hge : ¬ (k : Int) < keys.length := by omega
            have HVG := Lib.hid (HG6.out.trans HV.out)
            clear d4
            have d4 := row_cellT (HV.out.heap HB6.out) 4 _ rfl
            go_wp2_with fail
            go_roundw
            case rel => exact ⟨q + 1, by omega, by go_num, HVG.out⟩
            case measure => simp [intOf]; omega
      · have hqi : ¬ (q : Int) < ts.size := by omega
        go_wp2_with fail
        refine (works07_any _).mono ?_
        rintro r w5 ⟨rfl, hg5⟩
        have HGF := Lib.hid (HG3.out.trans (HG4.out.trans hg5))
        clear hg5
        go_wp2_with fail
        go_ret
        exact ⟨rfl, HGF.out⟩

theorem keyMaps_own : ownKnob Try.prog.godebug = none := by kernel_rfl
theorem keyMaps_laidOut : laidOutB Try.prog = true := by kernel_rfl

set_option maxRecDepth 100000 in
theorem keyMaps_lifted (os : Os) (started : os.Started) (H : Type) (enc : TypeId × Value → H) :
    ReturnsInHanded {} Try.checked os 9 .any (Rows.keyMapsSpec.pre6 enc Try.prog Try.f9 Rows.keyMapsRow.domain false) (Rows.keyMapsSpec.post enc Try.prog Try.f9 false true false false) := by
  refine returnsInHanded_of_change (C := Try.checked) keyMaps_own started (by kernel_rfl) Try.func9
    (ChangeSpec.witness6 (enc := enc) (C := Try.checked) false ⟨#[], #[.agg #[.int .i64 0, .int .i64 0, .int .u64 0, .string ⟨#[]⟩, .slice none 0 0, .slice none 0 0]], []⟩ 8 (by kernel_rfl) (by kernel_rfl) (by kernel_rfl) (by kernel_rfl)) ?_
  intro W base args ds gs before hval0 hW hcnd _
  have hval : ∀ (j : Nat) t v, Try.f9.params[j]? = some t → args[j]? = some v → Value.okWide Try.prog W .any base t v := hval0
  have hW' := hW
  obtain ⟨p, q, hA0, hV, rfl, hfz, hnd⟩ := hW
  have hA : DataW.TrodAll enc Try.prog W 0 (fun _ => true) true Try.f9.params.toList args.toList ds p := hA0
  rw [Try.params9] at hA hval
  obtain ⟨v0, vs0, d0, ds0, p0, q0, hargs, rfl, rfl, h0, r0⟩ := trodAll_cons hA
  obtain ⟨rfl, rfl, rfl⟩ := trodAll_nil r0
  obtain rfl : args = #[v0] := by cases args; simp_all
  obtain ⟨rfl, rfl⟩ := trodVars_none hV
  have lt0 : ∀ x ∈ p0, x.block < W.heap.size := by obtain ⟨m, hm⟩ := h0; exact DataW.trod_lt m _ _ _ hm
  have hw := keyMaps_row enc W base v0 d0 p0 (hval 0 41 v0 rfl rfl) h0
  clear hA0 hval0
  refine hw.mono fun e W' ⟨he, bel⟩ => ?_
  subst he
  exact ⟨_, rfl, _, _, _, [], _, [], hW', trodAll_mk1 (shut_bool Try.underlying4 _), (trodAll_cons_mk (Below.trod keyMaps_laidOut (by kernel_rfl) (of_decide_eq_true (by kernel_rfl)) h0 bel lt0) trodAll_mk0), rfl, Below.frame bel _, fun h => by cases h⟩

/-- The statement. -/
theorem keyMaps_holds : Rows.KeyMapsSaid :=
  OpenClaim.holds_of_wide 9 Try.f9 rfl rfl rfl rfl rfl rfl rfl ⟨rfl, rfl, rfl, rfl, rfl⟩ rfl rfl rfl rfl rfl (by kernel_rfl) Try.func9 (by kernel_rfl)
    (of_decide_eq_true (by kernel_rfl)) (by unfold Func.isWrapper; first | (rw [if_pos (by decide +kernel)]; kernel_rfl) | (rw [if_neg (by decide +kernel)]; exact ⟨rfl, rfl⟩))
    (fun os started H enc _ => keyMaps_lifted os started H enc)
end Go.Proofs.Ytnelhbkneokpiaa
