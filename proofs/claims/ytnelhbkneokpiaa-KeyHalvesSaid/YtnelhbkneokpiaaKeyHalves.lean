/-
  'KeyHalves': in an increasing list Find finds every element at its index, and no other key. Conditions: none beyond the statement's own.
-/
import Derived.Test.YtnelhbkneokpiaaRows
import Derived.Test.YtnelhbkneokpiaaPF
import Derived.ProofKit
import Derived.OpenShut
import Derived.ShutString
import Derived.ChangeOld
import Derived.Below
import Derived.Lib.SmallJoins
import Derived.Deep.QuietTactic
import Derived.BigQuiet
namespace Go.Proofs.Ytnelhbkneokpiaa
open Go Go.ChangeShapes Go.WideShapes Go.ChangeAt Go.RowKit Go.Joins
open Go.ChangeMaps (open_string shut_string)
open Go.Deep
set_option linter.unusedVariables false
set_option linter.unusedSimpArgs false

/-- Binary search in an increasing list stops at the first element that is not less. -/
theorem halves_at (l : List ByteArray) (k : ByteArray) (hs : l.Pairwise fun a b => ltS a b = true) : ∀ (n lo hi : Nat), hi - lo ≤ n → lo ≤ hi → hi ≤ l.length → (∀ (j : Nat) x, j < lo → l[j]? = some x → ltS x k = true) → (∀ (j : Nat) x, hi ≤ j → l[j]? = some x → ltS x k = false) →
    halves l k lo hi ≤ l.length ∧ (∀ (j : Nat) x, j < halves l k lo hi → l[j]? = some x → ltS x k = true) ∧ (∀ (j : Nat) x, halves l k lo hi ≤ j → l[j]? = some x → ltS x k = false) := by
  intro n
  induction n with
  | zero =>
    intro lo hi h1 h2 h3 hl hr
    have e : hi = lo := by omega
    subst e
    unfold halves
    rw [if_neg (by omega)]
    exact ⟨h3, hl, hr⟩
  | succ n ih =>
    intro lo hi h1 h2 h3 hl hr
    by_cases hlt : lo < hi
    · unfold halves
      rw [if_pos hlt]
      have hm : lo + (hi - lo) / 2 < l.length := by omega
      have hg : l.getD (lo + (hi - lo) / 2) ByteArray.empty = l[lo + (hi - lo) / 2] := by rw [List.getD_eq_getElem?_getD, List.getElem?_eq_getElem hm]; rfl
      rw [hg]
      split
      · rename_i hc
        refine ih _ _ (by omega) (by omega) h3 (fun j x hj hx => ?_) hr
        obtain ⟨hj2, hx2⟩ := List.getElem?_eq_some_iff.1 hx
        rcases Nat.lt_or_ge j (lo + (hi - lo) / 2) with h | h
        · have := List.pairwise_iff_getElem.1 hs j (lo + (hi - lo) / 2) hj2 hm h
          rw [hx2] at this
          exact ltS_trans this hc
        · have e : j = lo + (hi - lo) / 2 := by omega
          subst e
          rw [← hx2]; exact hc
      · rename_i hc
        refine ih _ _ (by omega) (by omega) (by omega) hl (fun j x hj hx => ?_)
        obtain ⟨hj2, hx2⟩ := List.getElem?_eq_some_iff.1 hx
        rcases Nat.lt_or_ge (lo + (hi - lo) / 2) j with h | h
        · have hp := List.pairwise_iff_getElem.1 hs (lo + (hi - lo) / 2) j hm hj2 h
          rw [hx2] at hp
          cases hc2 : ltS x k with
          | false => rfl
          | true => exact absurd (ltS_trans hp hc2) hc
        · have e : j = lo + (hi - lo) / 2 := by omega
          subst e
          rw [← hx2]; simpa using hc
    · unfold halves
      rw [if_neg hlt]
      have e : hi = lo := by omega
      subst e
      exact ⟨h3, hl, hr⟩
theorem find_mem {l : List ByteArray} (hs : l.Pairwise fun a b => ltS a b = true) {i : Nat} {x : ByteArray} (hx : l[i]? = some x) : findK l x = ((i : Int), true) := by
  obtain ⟨h1, h2, h3⟩ := halves_at l x hs l.length 0 l.length (by omega) (by omega) (Nat.le_refl _) (fun j _ h => by omega) (fun j y h hy => by have := (List.getElem?_eq_some_iff.1 hy).1; omega)
  obtain ⟨hil, hxe⟩ := List.getElem?_eq_some_iff.1 hx
  have e : halves l x 0 l.length = i := by
    rcases Nat.lt_trichotomy i (halves l x 0 l.length) with h | h | h
    · have := h2 i x h hx; rw [ltS_irrefl] at this; cases this
    · exact h.symm
    · have hr : halves l x 0 l.length < l.length := by omega
      have h4 := h3 _ _ (Nat.le_refl _) (List.getElem?_eq_getElem hr)
      have h5 := List.pairwise_iff_getElem.1 hs _ i hr hil h
      rw [hxe] at h5; rw [h4] at h5; cases h5
  unfold findK
  rw [e, if_pos hx]
theorem find_none {l : List ByteArray} {x : ByteArray} (hx : x ∉ l) : findK l x = (0, false) := by
  unfold findK
  rw [if_neg (fun h => hx (List.mem_of_getElem? h))]
theorem find_has {l : List ByteArray} (hs : l.Pairwise fun a b => ltS a b = true) (x : ByteArray) : (findK l x).2 = seenB x l := by
  by_cases h : x ∈ l
  · obtain ⟨i, hi⟩ := List.mem_iff_getElem?.1 h
    rw [find_mem hs hi, (seenB_iff x l).2 h]
  · rw [find_none h]
    cases hb : seenB x l with
    | false => rfl
    | true => exact absurd ((seenB_iff x l).1 hb) h
set_option maxRecDepth 100000 in
set_option maxHeartbeats 4000000 in
theorem keyHalves_row {H : Type} (enc : TypeId × Value → H) (W : World) (base : Nat) (v0 : Value) (d0 : DataW H) (p0 : List MemPlace) (o0 : Value.okWide Try.prog W .any base 22 v0) (k0 : DataW.Trod enc Try.prog W 0 (fun _ => true) true 22 v0 d0 p0) (v1 : Value) (d1 : DataW H) (p1 : List MemPlace) (o1 : Value.okWide Try.prog W .any base 9 v1) (k1 : DataW.Trod enc Try.prog W 0 (fun _ => true) true 9 v1 d1 p1) :
    Calls Try.prog 8 #[v0, v1] W fun e w' => e = .returned (.bool true) ∧ Below W.heap.size W w' := by
  obtain ⟨l, hl⟩ := open_strs1 o0 k0
  obtain ⟨k, rfl, _, _, hk⟩ := open_string Try.underlying9 o1 k1
  obtain ⟨a, c, rfl⟩ := hl.form
  have HL := Lib.hid hl
  have hks : (shortS k 40).size ≤ 40 := by rw [shortS_size]; omega
  have HK := Lib.hid hk
  obtain ⟨x, hx⟩ : ∃ x, shortS k 40 = x := ⟨_, rfl⟩
  clear o0 o1 k0 k1 hk hl
  go_enter Try.func8, Try.ntmps8
  go_wp2_with fail
  refine (works07_any W).mono ?_
  rintro r w0 ⟨rfl, hg0⟩
  have HG0 := Lib.hid hg0
  clear hg0
  go_wp2_with fail
  have hsh := short_any' w0 k 40 HK.out (by omega)
  rw [hx] at hsh hks
  refine hsh.mono ?_
  rintro r w' ⟨rfl, rfl⟩
  clear hsh hx
  go_wp2_with fail
  refine (few07_any _ _ _ (HL.out.grew HG0.out)).mono ?_
  rintro r w1 ⟨v1, rfl, hs1, hg1⟩
  obtain ⟨a1, c1, rfl⟩ := hs1.form
  have hlen := few_len l
  generalize textsS l 60 40 = m at *
  have HS1 := Lib.hid hs1
  have HG1 := Lib.hid (HG0.out.trans hg1)
  clear hs1 hg1
  go_wp2_with fail
  refine (risen_any m (by omega) _ w1 HS1.out).mono ?_
  rintro r w2 ⟨hg2, ⟨_, rfl⟩ | ⟨hnd, v2, rfl, hs2⟩⟩
  · have HG2 := Lib.hid (HG1.out.trans hg2)
    clear hg2
    go_wp2_with fail
    go_ret
    exact ⟨rfl, HG2.out⟩
  have HG2 := Lib.hid (HG1.out.trans hg2)
  have hul : (riseK m).length ≤ 60 := by rw [rise_len]; exact hlen
  have HRS := Lib.hid (rise_sorted hnd)
  obtain ⟨a2, c2, rfl⟩ := hs2.form
  generalize riseK m = u at *
  have HS2 := Lib.hid hs2
  clear hg2 hs2 hnd
  go_wp2_with fail
  go_loopw [7, 8] (fun h i wr => ∃ q : Nat, q ≤ u.length ∧ i = .int .i64 q ∧ h = .bool (seenB x (u.take q)) ∧ Hid (Grew w2 wr)) (fun _ i _ => u.length - (intOf i).toNat)
  case atStart => exact ⟨0, Nat.zero_le _, rfl, by simp [seenB], Grew.refl _⟩
  case round =>
    obtain ⟨q, hq, rfl, rfl, HW⟩ := hrel
    by_cases hlt : q < u.length
    · obtain ⟨y, hy⟩ : ∃ y, u[q]? = some y := ⟨_, List.getElem?_eq_getElem hlt⟩
      have hst := HS2.out.grew HW.out
      obtain ⟨_, _, ee, _, _, _, hcell⟩ := HS2.out
      cases ee
      obtain ⟨_, b1, o1, e2, hc⟩ := hcell q y hy
      subst e2
      have d1 := HW.out.cell hc
      have hli : (q : Int) < u.length := by omega
      have htk : u.take (q + 1) = u.take q ++ [y] := by rw [List.take_add_one, hy]; rfl
      have HTK := Lib.hid htk
      have hfd := find_mem HRS.out hy
      have HFD := Lib.hid hfd
      obtain ⟨bb, hbb⟩ : ∃ bb, seenB x (u.take q) = bb := ⟨_, rfl⟩
      have HBB := Lib.hid hbb
      rw [hbb]
      have hste := str_eq y x
      have HNX : Hid (seenB x (u.take (q + 1)) = (bb || decide (y = x))) := by
        show _ = _
        rw [HTK.out, ← HBB.out]
        simp [seenB]
      obtain ⟨ey, hey⟩ : ∃ ey, decide (y = x) = ey := ⟨_, rfl⟩
      rw [hey] at hste HNX
      clear hcell hc htk hfd hbb hey
      cases bb
      all_goals
        go_wp2_with fail
        have hf := found_any u y q true _ wr hst
        rw [HFD.out] at hf
        refine hf.mono ?_
        clear hf hst
        rintro r w3 ⟨rfl, hg3⟩
        rw [show (decide ((q : Int) = (q : Int)) && decide (true = true)) = true by simp]
        have HGN := Lib.hid (HW.out.trans hg3)
        clear hg3 d1
        go_wp2_with fail
        go_roundw
        case rel => exact ⟨q + 1, by omega, by go_num, by rw [HNX.out]; simp, HGN⟩
        case measure => simp [intOf]; omega
    · have eq : q = u.length := by omega
      subst eq
      rw [List.take_length]
      have hhas := find_has HRS.out x
      have hst := HS2.out.grew HW.out
      obtain ⟨bb, hbb⟩ : ∃ bb, seenB x u = bb := ⟨_, rfl⟩
      rw [hbb] at hhas ⊢
      have HH := Lib.hid hhas
      have HGF := Lib.hid (HG2.out.trans HW.out)
      clear hbb hhas
      go_wp2_with fail
      have hf := find_any u x _ wr hst
      rw [HH.out] at hf
      refine hf.mono ?_
      rintro r w3 ⟨rfl, rfl⟩
      clear hf hst
      cases bb
      all_goals
        go_wp2_with fail
        go_ret
        exact ⟨rfl, HGF.out⟩

theorem keyHalves_own : ownKnob Try.prog.godebug = none := by kernel_rfl
theorem keyHalves_laidOut : laidOutB Try.prog = true := by kernel_rfl

set_option maxRecDepth 100000 in
theorem keyHalves_lifted (os : Os) (started : os.Started) (H : Type) (enc : TypeId × Value → H) :
    ReturnsInHanded {} Try.checked os 8 .any (Rows.keyHalvesSpec.pre6 enc Try.prog Try.f8 Rows.keyHalvesRow.domain false) (Rows.keyHalvesSpec.post enc Try.prog Try.f8 false true false false) := by
  refine returnsInHanded_of_change (C := Try.checked) keyHalves_own started (by kernel_rfl) Try.func8
    (ChangeSpec.witness6 (enc := enc) (C := Try.checked) false ⟨#[], #[.slice none 0 0, .string ⟨#[]⟩], []⟩ 8 (by kernel_rfl) (by kernel_rfl) (by kernel_rfl) (by kernel_rfl)) ?_
  intro W base args ds gs before hval0 hW hcnd _
  have hval : ∀ (j : Nat) t v, Try.f8.params[j]? = some t → args[j]? = some v → Value.okWide Try.prog W .any base t v := hval0
  have hW' := hW
  obtain ⟨p, q, hA0, hV, rfl, hfz, hnd⟩ := hW
  have hA : DataW.TrodAll enc Try.prog W 0 (fun _ => true) true Try.f8.params.toList args.toList ds p := hA0
  rw [Try.params8] at hA hval
  obtain ⟨v0, vs0, d0, ds0, p0, q0, hargs, rfl, rfl, h0, r0⟩ := trodAll_cons hA
  obtain ⟨v1, vs1, d1, ds1, p1, q1, rfl, rfl, rfl, h1, r1⟩ := trodAll_cons r0
  obtain ⟨rfl, rfl, rfl⟩ := trodAll_nil r1
  obtain rfl : args = #[v0, v1] := by cases args; simp_all
  obtain ⟨rfl, rfl⟩ := trodVars_none hV
  have lt0 : ∀ x ∈ p0, x.block < W.heap.size := by obtain ⟨m, hm⟩ := h0; exact DataW.trod_lt m _ _ _ hm
  have lt1 : ∀ x ∈ p1, x.block < W.heap.size := by obtain ⟨m, hm⟩ := h1; exact DataW.trod_lt m _ _ _ hm
  have hw := keyHalves_row enc W base v0 d0 p0 (hval 0 22 v0 rfl rfl) h0 v1 d1 p1 (hval 1 9 v1 rfl rfl) h1
  clear hA0 hval0
  refine hw.mono fun e W' ⟨he, bel⟩ => ?_
  subst he
  exact ⟨_, rfl, _, _, _, [], _, [], hW', trodAll_mk1 (shut_bool Try.underlying4 _), (trodAll_cons_mk (Below.trod keyHalves_laidOut (by kernel_rfl) (of_decide_eq_true (by kernel_rfl)) h0 bel lt0) (trodAll_cons_mk (Below.trod keyHalves_laidOut (by kernel_rfl) (of_decide_eq_true (by kernel_rfl)) h1 bel lt1) trodAll_mk0)), rfl, Below.frame bel _, fun h => by cases h⟩

/-- The statement. -/
theorem keyHalves_holds : Rows.KeyHalvesSaid :=
  OpenClaim.holds_of_wide 8 Try.f8 rfl rfl rfl rfl rfl rfl rfl ⟨rfl, rfl, rfl, rfl, rfl⟩ rfl rfl rfl rfl rfl (by kernel_rfl) Try.func8 (by kernel_rfl)
    (of_decide_eq_true (by kernel_rfl)) (by unfold Func.isWrapper; first | (rw [if_pos (by decide +kernel)]; kernel_rfl) | (rw [if_neg (by decide +kernel)]; exact ⟨rfl, rfl⟩))
    (fun os started H enc _ => keyHalves_lifted os started H enc)
end Go.Proofs.Ytnelhbkneokpiaa
