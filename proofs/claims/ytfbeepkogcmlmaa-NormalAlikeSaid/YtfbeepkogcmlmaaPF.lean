/-
  Texts of the proof, part 6 of 8.
-/
import Derived.Test.YtfbeepkogcmlmaaPE
import Derived.Test.YtfbeepkogcmlmaaPC
import Derived.Deep.CutBlock
import Derived.Deep.DeepCutAuto
import Derived.Deep.QuietTactic
import Derived.BigQuiet
import Derived.Test.YtfbeepkogcmlmaaPA
import Derived.StillTail
import Derived.Test.YtfbeepkogcmlmaaPB
import Derived.Test.YtfbeepkogcmlmaaPD
import Derived.Deep.DeepAppendRoom
import Derived.Deep.DeepAppendWide

/-
  Normal forms, the reference: check. Conditions: the tree lies in an older world; it has at most 4096 nodes.
-/
namespace Go.Proofs.Ytfbeepkogcmlmaa
open Go Go.ChangeShapes Go.WideShapes Go.ChangeAt Go.RowKit Go.Joins Go.Deep
set_option linter.unusedVariables false
set_option linter.unusedSimpArgs false

/-- The counter of the reference's walk. -/
def walkR (n : Int) : Obj := .cells #[.int .i64 n] 76 (0, 0)
theorem walkR_set {w : World} {rb : Nat} {n : Int} (h : w.heap[rb]? = some (walkR n)) (p : Int) : (w.setCell ⟨rb, 0, none⟩ (.int .i64 p)).heap[rb]? = some (walkR p) := by
  have := heap_setCell_same w rb 0 _ _ (.int .i64 p) h
  simpa [walkR] using this
theorem keysE_step {keys : List ByteArray} {k : Nat} {q : ByteArray} (h : keys[k]? = some q) : keysE (keys.take k) (keys.drop k) = if zeroB q = true then 70 else if seenB q (keys.take k) = true then 71 else keysE (keys.take (k + 1)) (keys.drop (k + 1)) := by
  have hlt := (List.getElem?_eq_some_iff.1 h).1
  have e : keys[k] = q := (List.getElem?_eq_some_iff.1 h).2
  rw [List.drop_eq_getElem_cons hlt, e]
  show (if zeroB q = true then (70 : Int) else if seenB q (keys.take k) = true then 71 else keysE (keys.take k ++ [q]) (keys.drop (k + 1))) = _
  rw [show keys.take k ++ [q] = keys.take (k + 1) by rw [List.take_add_one, h]; rfl]
theorem seenB_step {keys : List ByteArray} {k : Nat} {q y : ByteArray} (h : keys[k]? = some y) : seenB q (keys.take (k + 1)) = (seenB q (keys.take k) || decide (y = q)) := by
  rw [List.take_add_one, h]
  simp [seenB]
theorem seenB_true {keys : List ByteArray} {k j : Nat} {q : ByteArray} (h : keys[j]? = some q) (hj : j < k) : seenB q (keys.take k) = true := by
  rw [seenB_iff]
  have : (keys.take k)[j]? = some q := by rw [List.getElem?_take, if_pos hj, h]
  exact List.mem_of_getElem? this
theorem chkRL_step {b : Nat} {l : List Tr} {k : Nat} {x : Tr} (h : l[k]? = some x) : chkRL b (l.drop k) = if chkR b x ≠ 0 then chkR b x else chkRL b (l.drop (k + 1)) := by
  have hlt := (List.getElem?_eq_some_iff.1 h).1
  have e : l[k] = x := (List.getElem?_eq_some_iff.1 h).2
  rw [List.drop_eq_getElem_cons hlt, e, chkRL]
theorem sizeL_take {l : List Tr} {k : Nat} {x : Tr} (h : l[k]? = some x) : sizeL (l.take (k + 1)) = sizeL (l.take k) + x.size ∧ sizeL (l.take (k + 1)) ≤ sizeL l := by
  constructor
  · rw [List.take_add_one, h, sizeL_append]
    simp [sizeL]
  · have : sizeL (l.take (k + 1) ++ l.drop (k + 1)) = sizeL l := by rw [List.take_append_drop]
    rw [sizeL_append] at this
    omega
set_option maxRecDepth 100000 in
set_option maxHeartbeats 4000000 in
theorem rchk_any (W : World) (rb : Nat) (hWrb : W.heap.size ≤ rb) : ∀ (m : Nat) (t : Tr), t.size ≤ m → ∀ (v : Value) (w : World) (N : Int) (b : Nat), 0 ≤ N → N + t.size ≤ 4096 → b ≤ 64 → NodeAt W t v → Grew W w → w.heap[rb]? = some (walkR N) →
    Calls Try.prog 65 #[.pointer (some ⟨rb, 0, none⟩), v, .int .i64 b] w fun r w' => r = .returned (.int .i64 (chkR b t)) ∧ Moved (fun g => g = rb) w w' ∧ ∃ N', w'.heap[rb]? = some (walkR N') ∧ N ≤ N' ∧ N' ≤ N + t.size := by
  intro m
  induction m with
  | zero => intro t ht; have := t.size_pos; omega
  | succ m ih =>
    intro t hm v w N b hN0 hN1 hb64 hn hW hrow
    obtain ⟨k, n, u, s, keys, l⟩ := t
    obtain ⟨hb, kv, lv, vs, rfl, hks, hrl, hkd⟩ := hn
    have hnode : NodeAt W (.mk k n u s keys l) (.agg #[.int .i64 k, .int .i64 n, .int .u64 u, .string s, kv, lv]) := ⟨hb, kv, lv, vs, rfl, hks, hrl, hkd⟩
    have hkl := hkd.length
    have HKD := Lib.hid hkd
    have HKS := Lib.hid hks
    obtain ⟨a4, c4, rfl, hk1, hk2, hk3, _⟩ := hks
    have HRL := Lib.hid hrl
    obtain ⟨a5, c5, rfl, hl1, hl2, hl3, hl4⟩ := hrl
    rw [hkl] at HRL hl1 hnode ⊢
    have HND := Lib.hid hnode
    have HIH := Lib.hid ih
    have hsl : lenok s.size := hb.2.2.2
    have hlen : l.length ≤ 9223372036854775807 := by unfold lenok at hl2; omega
    have hkeys : keys.length ≤ 9223372036854775807 := by unfold lenok at hk2; omega
    have hlc : (l.length : Int) ≤ c5 := by omega
    have hkc : (keys.length : Int) ≤ c4 := by omega
    have HSZ : Hid (∀ x ∈ l, x.size ≤ m) := fun x hx => by have := size_mem hx; simp only [Tr.size] at hm; omega
    have hszt : (Tr.mk k n u s keys l).size = 1 + sizeL l := by simp only [Tr.size]; omega
    rw [hszt] at hN1
    have HSZT := Lib.hid hszt
    have HN1 := Lib.hid hN1
    clear hb hk1 hk2 hk3 hl1 hl2 hl3 hl4 hkl hkd hnode ih hm hszt
    obtain ⟨res, hres⟩ : ∃ e, chkR b (.mk k n u s keys l) = e := ⟨_, rfl⟩
    rw [hres]
    rw [chkR] at hres
    have HRES := Lib.hid hres
    clear hres
    have hrt := heap_alloc_new w (.cells #[.int .i64 k, .int .i64 n, .int .u64 u, .string s, .slice a4 keys.length c4, .slice a5 l.length c5] 26)
    have hga := (Grew.refl w).alloc (.cells #[.int .i64 k, .int .i64 n, .int .u64 u, .string s, .slice a4 keys.length c4, .slice a5 l.length c5] 26)
    have hrb1 := hga.heap hrow
    have hne : rb ≠ w.heap.size := by have := (Array.getElem?_eq_some_iff.1 hrow).1; omega
    go_enter Try.func65, Try.ntmps65
    go_upto_region 1 with fail
    obtain ⟨pr, hpr⟩ : ∃ N, w.heap.size = N := ⟨_, rfl⟩
    generalize (w.alloc (.cells #[.int .i64 k, .int .i64 n, .int .u64 u, .string s, .slice a4 keys.length c4, .slice a5 l.length c5] 26)) = x1 at *
    rw [hpr] at hrt hne ⊢
    have r0 := row_cellT hrb1 0 _ rfl
    have q0 := row_frozen hrb1 0
    have hwn : IntKind.i64.wrap (N + 1) = N + 1 := by rw [IntKind.wrap_i64]; omega
    have hrb2 := walkR_set hrb1 (N + 1)
    have hm2 : Moved (fun g => g = rb) x1 (x1.setCell ⟨rb, 0, none⟩ (.int .i64 (N + 1))) := Moved.setCell (S := fun g => g = rb) (p := ⟨rb, 0, none⟩) (Moved.refl _ x1) (fun _ => rfl) _
    have hrt2 := hm2.heap hrt (fun e => hne e.symm)
    have hmm : Moved (fun g => g = rb) w (x1.setCell ⟨rb, 0, none⟩ (.int .i64 (N + 1))) := (Moved.of_grew hga).trans hm2 (fun _ _ h => h)
    have hgg : Grew W (x1.setCell ⟨rb, 0, none⟩ (.int .i64 (N + 1))) := Moved.fresh hW hmm (fun g e => by subst e; exact hWrb)
    go_upto_region 2 with fail
    generalize (x1.setCell ⟨rb, 0, none⟩ (.int .i64 (N + 1))) = x2 at *
    have HRT := Lib.hid hrt2
    have HRB := Lib.hid hrb2
    have HM := Lib.hid hmm
    have HG := Lib.hid hgg
    clear hrt hrb1 hrt2 hrb2 hmm hgg hm2 hga r0 q0 hpr hrow hW
    have r0 := row_cellT HRB.out 0 _ rfl
    have e0 := row_cellT HRT.out 0 _ rfl
    have e1 := row_cellT HRT.out 1 _ rfl
    have e2 := row_cellT HRT.out 2 _ rfl
    have e3 := row_cellT HRT.out 3 _ rfl
    have e4 := row_cellT HRT.out 4 _ rfl
    have e5 := row_cellT HRT.out 5 _ rfl
    have hnl : ¬ (4096 : Int) < N + 1 := by have := HN1.out; omega
    by_cases hb : 64 ≤ b
    · have hbi : (64 : Int) ≤ (b : Int) := by omega
      have HV : Hid (res = 61) := by show _ = _; rw [← HRES.out, if_pos hb]
      clear hb
      go_wp2_with fail
      go_ret
      exact ⟨by rw [HV.out]; rfl, HM.out, _, HRB.out, by omega, by have := HSZT.out; omega⟩
    have hbi : ¬ (64 : Int) ≤ (b : Int) := by omega
    rw [if_neg hb] at HRES
    go_wp2_with fail
    obtain ⟨sb, hsb⟩ : ∃ q, suchR (.mk k n u s keys l) = q := ⟨_, rfl⟩
    have hh := rsuch_any _ _ x2 (HND.out.grew HG.out)
    rw [hsb] at hh HRES
    clear hsb
    refine hh.mono ?_
    clear hh
    rintro r x3 ⟨rfl, hgc⟩
    clear r0 e0 e1 e2 e3 e4 e5
    replace HRT := Lib.hid (hgc.heap HRT.out)
    replace HRB := Lib.hid (hgc.heap HRB.out)
    replace HM := Lib.hid (HM.out.trans (Moved.of_grew hgc) (fun _ _ h => h))
    replace HG := Lib.hid (HG.out.trans hgc)
    clear hgc
    have e0 := row_cellT HRT.out 0 _ rfl
    have e1 := row_cellT HRT.out 1 _ rfl
    have e2 := row_cellT HRT.out 2 _ rfl
    have e3 := row_cellT HRT.out 3 _ rfl
    have e4 := row_cellT HRT.out 4 _ rfl
    have e5 := row_cellT HRT.out 5 _ rfl
    cases sb
    · have HV : Hid (res = 60) := by show _ = _; rw [← HRES.out, if_pos rfl]
      go_wp2_with fail
      go_ret
      exact ⟨by rw [HV.out]; rfl, HM.out, _, HRB.out, by omega, by have := HSZT.out; omega⟩
    rw [if_neg (by decide)] at HRES
    by_cases hk5 : k = 5
    · subst hk5
      go_wp2_with fail
      obtain ⟨zs, hzs⟩ : ∃ z, zeroB s = z := ⟨_, rfl⟩
      have hh := rzero_any s x3 hsl
      rw [hzs] at hh
      refine hh.mono ?_
      clear hh
      rintro r wq ⟨rfl, e⟩
      rw [e]
      clear e wq
      have hke : keyedE (.mk 5 n u s keys l) = if zs = true then 70 else keysE [] keys := by show (if (5 : Int) = 5 ∧ zeroB s = true then 70 else keysE [] keys) = _; rw [hzs]; simp
      rw [hke] at HRES
      clear hke hzs
      cases zs
      rotate_left
      · have HV : Hid (res = 70) := by show _ = _; rw [← HRES.out]; rfl
        go_wp2_with fail
        go_ret
        exact ⟨by rw [HV.out]; rfl, HM.out, _, HRB.out, by omega, by have := HSZT.out; omega⟩
      simp only [Bool.false_eq_true, if_false] at HRES
      have HKV : Hid (keysE [] keys ≠ 0 → res = keysE [] keys) := fun h => by rw [← HRES.out, if_pos h]
      have HKN : Hid (keysE [] keys = 0 → res = chkRL (b + 1) l) := fun h => by rw [← HRES.out, if_neg (fun h' => h' h)]
      go_wp2_with fail
      go_loopw [7] (fun i x4 => ∃ kk : Nat, kk ≤ keys.length ∧ i = .int .i64 kk ∧ Hid (Grew x3 x4 ∧ keysE [] keys = keysE (keys.take kk) (keys.drop kk))) (fun i _ => keys.length - (intOf i).toNat)
      case atStart => exact ⟨0, Nat.zero_le _, rfl, by show _ ∧ _; exact ⟨Grew.refl _, by simp⟩⟩
      case round =>
        generalize wr = x4 at *
        obtain ⟨kk, hkk, rfl, HL0⟩ := hrel
        have HXG := Lib.hid HL0.out.1
        have HL := Lib.hid HL0.out.2
        clear HL0 e0 e1 e2 e3 e4 e5
        replace HG := Lib.hid (HG.out.trans HXG.out)
        replace HM := Lib.hid (HM.out.trans (Moved.of_grew HXG.out) (fun _ _ h => h))
        replace HRT := Lib.hid (HXG.out.heap HRT.out)
        replace HRB := Lib.hid (HXG.out.heap HRB.out)
        have e0 := row_cellT HRT.out 0 _ rfl
        have e1 := row_cellT HRT.out 1 _ rfl
        have e2 := row_cellT HRT.out 2 _ rfl
        have e3 := row_cellT HRT.out 3 _ rfl
        have e4 := row_cellT HRT.out 4 _ rfl
        have e5 := row_cellT HRT.out 5 _ rfl
        by_cases hlt : kk < keys.length
        · obtain ⟨q, hq⟩ : ∃ q, keys[kk]? = some q := ⟨_, List.getElem?_eq_getElem hlt⟩
          have HST := Lib.hid (keysE_step hq)
          have HQ := Lib.hid hq
          obtain ⟨_, _, ee, _, _, _, hcell⟩ := HKS.out
          cases ee
          obtain ⟨hqz, kb, ko, rfl, hc⟩ := hcell kk q hq
          have HCELL := Lib.hid hcell
          have cq := HG.out.cell hc
          have hlti : (kk : Int) < keys.length := by omega
          have hdd : decide ((kk : Int) < (keys.length : Int)) = true := decide_eq_true hlti
          have hdn : decide (kk < keys.length) = true := decide_eq_true hlt
          clear hc hq hcell
          go_wp2_with fail
          obtain ⟨zb, hzb⟩ : ∃ z, zeroB q = z := ⟨_, rfl⟩
          have hh := rzero_any q x4 hqz
          rw [hzb] at hh HST
          clear hzb
          refine hh.mono ?_
          clear hh
          rintro r wq ⟨rfl, e⟩
          rw [e]
          clear e wq
          cases zb
          rotate_left
          · have h70 : keysE [] keys = 70 := by rw [HL.out, HST.out, if_pos rfl]
            have HV : Hid (res = 70) := by show _ = _; rw [HKV.out (by rw [h70]; decide), h70]
            clear h70
            go_wp2_with fail
            go_ret
            exact ⟨by rw [HV.out]; rfl, HM.out, _, HRB.out, by omega, by have := HSZT.out; omega⟩
          rw [if_neg (by decide)] at HST
          go_wp2_with fail
          go_loopw [8] (fun i x5 => ∃ jj : Nat, jj ≤ kk ∧ i = .int .i64 jj ∧ Hid (Grew x4 x5 ∧ seenB q (keys.take jj) = false)) (fun i _ => kk - (intOf i).toNat)
          case atStart => exact ⟨0, Nat.zero_le _, rfl, by show _ ∧ _; exact ⟨Grew.refl _, by simp [seenB]⟩⟩
          case round =>
            generalize wr = x5 at *
            obtain ⟨jj, hjj, rfl, HJ0⟩ := hrel
            have HX5 := Lib.hid HJ0.out.1
            have HJ := Lib.hid HJ0.out.2
            have HXG2 := Lib.hid (HXG.out.trans HX5.out)
            have cq5 := HX5.out.cell cq
            clear HJ0 cq e0 e1 e2 e3 e4 e5
            replace HG := Lib.hid (HG.out.trans HX5.out)
            replace HM := Lib.hid (HM.out.trans (Moved.of_grew HX5.out) (fun _ _ h => h))
            replace HRT := Lib.hid (HX5.out.heap HRT.out)
            replace HRB := Lib.hid (HX5.out.heap HRB.out)
            have e0 := row_cellT HRT.out 0 _ rfl
            have e1 := row_cellT HRT.out 1 _ rfl
            have e2 := row_cellT HRT.out 2 _ rfl
            have e3 := row_cellT HRT.out 3 _ rfl
            have e4 := row_cellT HRT.out 4 _ rfl
            have e5 := row_cellT HRT.out 5 _ rfl
            by_cases hjk : jj < kk
            · obtain ⟨y, hy⟩ : ∃ y, keys[jj]? = some y := ⟨_, List.getElem?_eq_getElem (by omega)⟩
              obtain ⟨hyz, kb2, ko2, e2, hc2⟩ := HCELL.out jj y hy
              cases e2
              have cy := HG.out.cell hc2
              have hjki : (jj : Int) < (kk : Int) := by omega
              have hjl : (jj : Int) < keys.length := by omega
              have HSS := Lib.hid (seenB_step (q := q) hy)
              have HY := Lib.hid hy
              have hse := str_eq y q
              clear hc2 hy
              by_cases hyq : y = q
              · have hbq : (y.toList == q.toList) = true := by rw [hse]; exact decide_eq_true hyq
                have h71 : keysE [] keys = 71 := by rw [HL.out, HST.out, if_pos (seenB_true (j := jj) (by rw [HY.out, hyq]) hjk)]
                have HV : Hid (res = 71) := by show _ = _; rw [HKV.out (by rw [h71]; decide), h71]
                clear h71
                clear hse hyq
                go_wp2_with fail
                go_quiet (fail)
                go_wp2_with fail
                go_ret
                exact ⟨by rw [HV.out]; rfl, HM.out.trans (Moved.of_grew ((Grew.refl _).drewN _)) (fun _ _ h => h), _, ((Grew.refl _).drewN _).heap HRB.out, by omega, by have := HSZT.out; omega⟩
              · have hbq : (y.toList == q.toList) = false := by rw [hse]; exact decide_eq_false hyq
                have HN2 : Hid (seenB q (keys.take (jj + 1)) = false) := by show _ = _; rw [HSS.out, HJ.out, decide_eq_false hyq]; rfl
                clear hse hyq
                go_wp2_with fail
                go_quiet (fail)
                go_wp2_with fail
                go_roundw
                case rel => exact ⟨jj + 1, by omega, by go_num, by show _ ∧ _; exact ⟨HX5.out.drewN _, HN2.out⟩⟩
                case measure => simp [intOf]; omega
            · have ej : jj = kk := by omega
              subst ej
              have HNS : Hid (keysE [] keys = keysE (keys.take (jj + 1)) (keys.drop (jj + 1))) := by show _ = _; rw [HL.out, HST.out, if_neg (by rw [HJ.out]; decide)]
              clear hjk
              go_wp2_with fail
              go_roundw
              case rel => exact ⟨jj + 1, by omega, by go_num, by show _ ∧ _; exact ⟨HXG2.out, HNS.out⟩⟩
              case measure => simp [intOf]; omega
        · have ek : kk = keys.length := by omega
          have HKZ : Hid (keysE [] keys = 0) := by show _ = _; rw [HL.out, ek, List.drop_length]; rfl
          subst ek
          clear hlt
          have HRL2 : Hid (res = chkRL (b + 1) l) := by show _ = _; rw [HKN.out HKZ.out]
          have HRT0 := HRT
          have HRB0 := HRB
          go_wp2_with fail
          clear e0 e1 e2 e3 e4 e5
          go_loopw [9] (fun i wr => ∃ kk : Nat, kk ≤ l.length ∧ i = .int .i64 kk ∧ Hid (Moved (fun g => g = rb) x4 wr ∧ chkRL (b + 1) l = chkRL (b + 1) (l.drop kk) ∧ ∃ N', wr.heap[rb]? = some (walkR N') ∧ N + 1 ≤ N' ∧ N' ≤ N + 1 + sizeL (l.take kk))) (fun i _ => l.length - (intOf i).toNat)
          case atStart => exact ⟨0, Nat.zero_le _, rfl, by show _ ∧ _ ∧ _; exact ⟨Moved.refl _ _, by rw [List.drop_zero], N + 1, HRB0.out, by omega, by simp [sizeL]⟩⟩
          case round =>
            obtain ⟨kk, hkk, rfl, HQ⟩ := hrel
            have HMW := Lib.hid (HM.out.trans HQ.out.1 (fun _ _ h => h))
            have HGW := Lib.hid (Moved.fresh HG.out HQ.out.1 (fun g e => by subst e; exact hWrb))
            have HRTW := Lib.hid (HQ.out.1.heap HRT0.out (fun e => hne e.symm))
            obtain ⟨N2, hN2, hN3, hN4⟩ := HQ.out.2.2
            have HRBW := Lib.hid hN2
            clear hN2
            by_cases hlt : kk < l.length
            rotate_left
            · have ek : kk = l.length := by omega
              have HV : Hid (res = 0) := by show _ = _; rw [HRL2.out, HQ.out.2.1, ek, List.drop_length]; rfl
              subst ek
              rw [List.take_length] at hN4
              clear hlt
              have e5 := row_cellT HRTW.out 5 _ rfl
              go_wp2_with fail
              go_ret
              exact ⟨by rw [HV.out]; rfl, HMW.out, _, HRBW.out, by omega, by have := HSZT.out; omega⟩
            obtain ⟨x, hx⟩ : ∃ x, l[kk]? = some x := ⟨_, List.getElem?_eq_getElem hlt⟩
            have HSTX := Lib.hid (chkRL_step (b := b + 1) hx)
            have hst := sizeL_take hx
            have HSTS := Lib.hid hst
            obtain ⟨xv, hxv, hnx⟩ := HKD.out.get hx
            have hxm : x ∈ l := List.mem_of_getElem? hx
            have HXS := Lib.hid (HSZ.out x hxm)
            obtain ⟨kb, ko, rfl, hc6⟩ : ∃ b off, a5 = some ⟨b, off, none⟩ ∧ Cells6 wr b (off + kk * 6) xv := by
              obtain ⟨a, c, e, _, _, _, h⟩ := HRL.out
              injection e with e1 e2 e3
              subst e1
              obtain ⟨b, off, e, h6⟩ := h kk xv hxv
              exact ⟨b, off, e, h6.grew HGW.out⟩
            obtain ⟨xk, xn, xu, xs, xa4, xn4, xc4, xa5, xn5, xc5, rfl⟩ := hnx.node6
            obtain ⟨f0, f1, f2, f3, f4, f5⟩ := hc6.get
            have HNX := Lib.hid hnx
            have hlti : (kk : Int) < l.length := by omega
            have hwb : IntKind.i64.wrap ((b : Int) + 1) = ((b + 1 : Nat) : Int) := by rw [IntKind.wrap_i64]; omega
            clear hc6 hx hxv hnx hxm hst
            have e5 := row_cellT HRTW.out 5 _ rfl
            have hcall := HIH.out x HXS.out _ wr N2 (b + 1) (by omega) (by have h1 := HSTS.out; have h2 := HN1.out; omega) (by omega) HNX.out HGW.out HRBW.out
            obtain ⟨er, her⟩ : ∃ e, chkR (b + 1) x = e := ⟨_, rfl⟩
            rw [her] at hcall HSTX
            have HCALL := Lib.hid hcall
            clear hcall her
            go_wp2_with fail
            refine HCALL.out.mono ?_
            rintro r y5 ⟨rfl, hm5, N3, hr5, hN5, hN6⟩
            have HM5 := Lib.hid hm5
            have HR5 := Lib.hid hr5
            clear hm5 hr5 f0 f1 f2 f3 f4 f5 e5
            by_cases he : er = 0
            · have HNX2 : Hid (chkRL (b + 1) l = chkRL (b + 1) (l.drop (kk + 1))) := by show _ = _; rw [HQ.out.2.1, HSTX.out, if_neg (fun h => h he)]
              subst he
              go_wp2_with fail
              go_roundw
              case rel => exact ⟨kk + 1, by omega, by go_num, by
                show _ ∧ _ ∧ _
                exact ⟨HQ.out.1.trans HM5.out (fun _ _ h => h), HNX2.out, N3, HR5.out, by omega, by have := HSTS.out; omega⟩⟩
              case measure => simp [intOf]; omega
            · have HV : Hid (res = er) := by show _ = _; rw [HRL2.out, HQ.out.2.1, HSTX.out, if_pos he]
              have hbe : (er != 0) = true := by simpa using he
              clear he
              go_wp2_with fail
              go_ret
              exact ⟨by rw [HV.out]; rfl, HMW.out.trans HM5.out (fun _ _ h => h), _, HR5.out, by omega, by have h1 := HSTS.out; have h2 := HSZT.out; omega⟩
    · have hbk : (k == 5) = false := by simpa using hk5
      have hke : keyedE (.mk k n u s keys l) = keysE [] keys := by show (if k = 5 ∧ zeroB s = true then 70 else keysE [] keys) = _; rw [if_neg (fun h => hk5 h.1)]
      rw [hke] at HRES
      clear hke hk5
      have HKV : Hid (keysE [] keys ≠ 0 → res = keysE [] keys) := fun h => by rw [← HRES.out, if_pos h]
      have HKN : Hid (keysE [] keys = 0 → res = chkRL (b + 1) l) := fun h => by rw [← HRES.out, if_neg (fun h' => h' h)]
      go_wp2_with fail
      go_loopw [7] (fun i x4 => ∃ kk : Nat, kk ≤ keys.length ∧ i = .int .i64 kk ∧ Hid (Grew x3 x4 ∧ keysE [] keys = keysE (keys.take kk) (keys.drop kk))) (fun i _ => keys.length - (intOf i).toNat)
      case atStart => exact ⟨0, Nat.zero_le _, rfl, by show _ ∧ _; exact ⟨Grew.refl _, by simp⟩⟩
      case round =>
        generalize wr = x4 at *
        obtain ⟨kk, hkk, rfl, HL0⟩ := hrel
        have HXG := Lib.hid HL0.out.1
        have HL := Lib.hid HL0.out.2
        clear HL0 e0 e1 e2 e3 e4 e5
        replace HG := Lib.hid (HG.out.trans HXG.out)
        replace HM := Lib.hid (HM.out.trans (Moved.of_grew HXG.out) (fun _ _ h => h))
        replace HRT := Lib.hid (HXG.out.heap HRT.out)
        replace HRB := Lib.hid (HXG.out.heap HRB.out)
        have e0 := row_cellT HRT.out 0 _ rfl
        have e1 := row_cellT HRT.out 1 _ rfl
        have e2 := row_cellT HRT.out 2 _ rfl
        have e3 := row_cellT HRT.out 3 _ rfl
        have e4 := row_cellT HRT.out 4 _ rfl
        have e5 := row_cellT HRT.out 5 _ rfl
        by_cases hlt : kk < keys.length
        · obtain ⟨q, hq⟩ : ∃ q, keys[kk]? = some q := ⟨_, List.getElem?_eq_getElem hlt⟩
          have HST := Lib.hid (keysE_step hq)
          have HQ := Lib.hid hq
          obtain ⟨_, _, ee, _, _, _, hcell⟩ := HKS.out
          cases ee
          obtain ⟨hqz, kb, ko, rfl, hc⟩ := hcell kk q hq
          have HCELL := Lib.hid hcell
          have cq := HG.out.cell hc
          have hlti : (kk : Int) < keys.length := by omega
          have hdd : decide ((kk : Int) < (keys.length : Int)) = true := decide_eq_true hlti
          have hdn : decide (kk < keys.length) = true := decide_eq_true hlt
          clear hc hq hcell
          go_wp2_with fail
          obtain ⟨zb, hzb⟩ : ∃ z, zeroB q = z := ⟨_, rfl⟩
          have hh := rzero_any q x4 hqz
          rw [hzb] at hh HST
          clear hzb
          refine hh.mono ?_
          clear hh
          rintro r wq ⟨rfl, e⟩
          rw [e]
          clear e wq
          cases zb
          rotate_left
          · have h70 : keysE [] keys = 70 := by rw [HL.out, HST.out, if_pos rfl]
            have HV : Hid (res = 70) := by show _ = _; rw [HKV.out (by rw [h70]; decide), h70]
            clear h70
            go_wp2_with fail
            go_ret
            exact ⟨by rw [HV.out]; rfl, HM.out, _, HRB.out, by omega, by have := HSZT.out; omega⟩
          rw [if_neg (by decide)] at HST
          go_wp2_with fail
          go_loopw [8] (fun i x5 => ∃ jj : Nat, jj ≤ kk ∧ i = .int .i64 jj ∧ Hid (Grew x4 x5 ∧ seenB q (keys.take jj) = false)) (fun i _ => kk - (intOf i).toNat)
          case atStart => exact ⟨0, Nat.zero_le _, rfl, by show _ ∧ _; exact ⟨Grew.refl _, by simp [seenB]⟩⟩
          case round =>
            generalize wr = x5 at *
            obtain ⟨jj, hjj, rfl, HJ0⟩ := hrel
            have HX5 := Lib.hid HJ0.out.1
            have HJ := Lib.hid HJ0.out.2
            have HXG2 := Lib.hid (HXG.out.trans HX5.out)
            have cq5 := HX5.out.cell cq
            clear HJ0 cq e0 e1 e2 e3 e4 e5
            replace HG := Lib.hid (HG.out.trans HX5.out)
            replace HM := Lib.hid (HM.out.trans (Moved.of_grew HX5.out) (fun _ _ h => h))
            replace HRT := Lib.hid (HX5.out.heap HRT.out)
            replace HRB := Lib.hid (HX5.out.heap HRB.out)
            have e0 := row_cellT HRT.out 0 _ rfl
            have e1 := row_cellT HRT.out 1 _ rfl
            have e2 := row_cellT HRT.out 2 _ rfl
            have e3 := row_cellT HRT.out 3 _ rfl
            have e4 := row_cellT HRT.out 4 _ rfl
            have e5 := row_cellT HRT.out 5 _ rfl
            by_cases hjk : jj < kk
            · obtain ⟨y, hy⟩ : ∃ y, keys[jj]? = some y := ⟨_, List.getElem?_eq_getElem (by omega)⟩
              obtain ⟨hyz, kb2, ko2, e2, hc2⟩ := HCELL.out jj y hy
              cases e2
              have cy := HG.out.cell hc2
              have hjki : (jj : Int) < (kk : Int) := by omega
              have hjl : (jj : Int) < keys.length := by omega
              have HSS := Lib.hid (seenB_step (q := q) hy)
              have HY := Lib.hid hy
              have hse := str_eq y q
              clear hc2 hy
              by_cases hyq : y = q
              · have hbq : (y.toList == q.toList) = true := by rw [hse]; exact decide_eq_true hyq
                have h71 : keysE [] keys = 71 := by rw [HL.out, HST.out, if_pos (seenB_true (j := jj) (by rw [HY.out, hyq]) hjk)]
                have HV : Hid (res = 71) := by show _ = _; rw [HKV.out (by rw [h71]; decide), h71]
                clear h71
                clear hse hyq
                go_wp2_with fail
                go_quiet (fail)
                go_wp2_with fail
                go_ret
                exact ⟨by rw [HV.out]; rfl, HM.out.trans (Moved.of_grew ((Grew.refl _).drewN _)) (fun _ _ h => h), _, ((Grew.refl _).drewN _).heap HRB.out, by omega, by have := HSZT.out; omega⟩
              · have hbq : (y.toList == q.toList) = false := by rw [hse]; exact decide_eq_false hyq
                have HN2 : Hid (seenB q (keys.take (jj + 1)) = false) := by show _ = _; rw [HSS.out, HJ.out, decide_eq_false hyq]; rfl
                clear hse hyq
                go_wp2_with fail
                go_quiet (fail)
                go_wp2_with fail
                go_roundw
                case rel => exact ⟨jj + 1, by omega, by go_num, by show _ ∧ _; exact ⟨HX5.out.drewN _, HN2.out⟩⟩
                case measure => simp [intOf]; omega
            · have ej : jj = kk := by omega
              subst ej
              have HNS : Hid (keysE [] keys = keysE (keys.take (jj + 1)) (keys.drop (jj + 1))) := by show _ = _; rw [HL.out, HST.out, if_neg (by rw [HJ.out]; decide)]
              clear hjk
              go_wp2_with fail
              go_roundw
              case rel => exact ⟨jj + 1, by omega, by go_num, by show _ ∧ _; exact ⟨HXG2.out, HNS.out⟩⟩
              case measure => simp [intOf]; omega
        · have ek : kk = keys.length := by omega
          have HKZ : Hid (keysE [] keys = 0) := by show _ = _; rw [HL.out, ek, List.drop_length]; rfl
          subst ek
          clear hlt
          have HRL2 : Hid (res = chkRL (b + 1) l) := by show _ = _; rw [HKN.out HKZ.out]
          have HRT0 := HRT
          have HRB0 := HRB
          go_wp2_with fail
          clear e0 e1 e2 e3 e4 e5
          go_loopw [9] (fun i wr => ∃ kk : Nat, kk ≤ l.length ∧ i = .int .i64 kk ∧ Hid (Moved (fun g => g = rb) x4 wr ∧ chkRL (b + 1) l = chkRL (b + 1) (l.drop kk) ∧ ∃ N', wr.heap[rb]? = some (walkR N') ∧ N + 1 ≤ N' ∧ N' ≤ N + 1 + sizeL (l.take kk))) (fun i _ => l.length - (intOf i).toNat)
          case atStart => exact ⟨0, Nat.zero_le _, rfl, by show _ ∧ _ ∧ _; exact ⟨Moved.refl _ _, by rw [List.drop_zero], N + 1, HRB0.out, by omega, by simp [sizeL]⟩⟩
          case round =>
            obtain ⟨kk, hkk, rfl, HQ⟩ := hrel
            have HMW := Lib.hid (HM.out.trans HQ.out.1 (fun _ _ h => h))
            have HGW := Lib.hid (Moved.fresh HG.out HQ.out.1 (fun g e => by subst e; exact hWrb))
            have HRTW := Lib.hid (HQ.out.1.heap HRT0.out (fun e => hne e.symm))
            obtain ⟨N2, hN2, hN3, hN4⟩ := HQ.out.2.2
            have HRBW := Lib.hid hN2
            clear hN2
            by_cases hlt : kk < l.length
            rotate_left
            · have ek : kk = l.length := by omega
              have HV : Hid (res = 0) := by show _ = _; rw [HRL2.out, HQ.out.2.1, ek, List.drop_length]; rfl
              subst ek
              rw [List.take_length] at hN4
              clear hlt
              have e5 := row_cellT HRTW.out 5 _ rfl
              go_wp2_with fail
              go_ret
              exact ⟨by rw [HV.out]; rfl, HMW.out, _, HRBW.out, by omega, by have := HSZT.out; omega⟩
            obtain ⟨x, hx⟩ : ∃ x, l[kk]? = some x := ⟨_, List.getElem?_eq_getElem hlt⟩
            have HSTX := Lib.hid (chkRL_step (b := b + 1) hx)
            have hst := sizeL_take hx
            have HSTS := Lib.hid hst
            obtain ⟨xv, hxv, hnx⟩ := HKD.out.get hx
            have hxm : x ∈ l := List.mem_of_getElem? hx
            have HXS := Lib.hid (HSZ.out x hxm)
            obtain ⟨kb, ko, rfl, hc6⟩ : ∃ b off, a5 = some ⟨b, off, none⟩ ∧ Cells6 wr b (off + kk * 6) xv := by
              obtain ⟨a, c, e, _, _, _, h⟩ := HRL.out
              injection e with e1 e2 e3
              subst e1
              obtain ⟨b, off, e, h6⟩ := h kk xv hxv
              exact ⟨b, off, e, h6.grew HGW.out⟩
            obtain ⟨xk, xn, xu, xs, xa4, xn4, xc4, xa5, xn5, xc5, rfl⟩ := hnx.node6
            obtain ⟨f0, f1, f2, f3, f4, f5⟩ := hc6.get
            have HNX := Lib.hid hnx
            have hlti : (kk : Int) < l.length := by omega
            have hwb : IntKind.i64.wrap ((b : Int) + 1) = ((b + 1 : Nat) : Int) := by rw [IntKind.wrap_i64]; omega
            clear hc6 hx hxv hnx hxm hst
            have e5 := row_cellT HRTW.out 5 _ rfl
            have hcall := HIH.out x HXS.out _ wr N2 (b + 1) (by omega) (by have h1 := HSTS.out; have h2 := HN1.out; omega) (by omega) HNX.out HGW.out HRBW.out
            obtain ⟨er, her⟩ : ∃ e, chkR (b + 1) x = e := ⟨_, rfl⟩
            rw [her] at hcall HSTX
            have HCALL := Lib.hid hcall
            clear hcall her
            go_wp2_with fail
            refine HCALL.out.mono ?_
            rintro r y5 ⟨rfl, hm5, N3, hr5, hN5, hN6⟩
            have HM5 := Lib.hid hm5
            have HR5 := Lib.hid hr5
            clear hm5 hr5 f0 f1 f2 f3 f4 f5 e5
            by_cases he : er = 0
            · have HNX2 : Hid (chkRL (b + 1) l = chkRL (b + 1) (l.drop (kk + 1))) := by show _ = _; rw [HQ.out.2.1, HSTX.out, if_neg (fun h => h he)]
              subst he
              go_wp2_with fail
              go_roundw
              case rel => exact ⟨kk + 1, by omega, by go_num, by
                show _ ∧ _ ∧ _
                exact ⟨HQ.out.1.trans HM5.out (fun _ _ h => h), HNX2.out, N3, HR5.out, by omega, by have := HSTS.out; omega⟩⟩
              case measure => simp [intOf]; omega
            · have HV : Hid (res = er) := by show _ = _; rw [HRL2.out, HQ.out.2.1, HSTX.out, if_pos he]
              have hbe : (er != 0) = true := by simpa using he
              clear he
              go_wp2_with fail
              go_ret
              exact ⟨by rw [HV.out]; rfl, HMW.out.trans HM5.out (fun _ _ h => h), _, HR5.out, by omega, by have h1 := HSTS.out; have h2 := HSZT.out; omega⟩
end Go.Proofs.Ytfbeepkogcmlmaa

/-
  Plain lemma, no program: a region that leaves its order open, but for a tail whose operations stand in the text's order and wait for all: facts for the head, the walk for the tail.
-/
namespace Go.Proofs.Ytfbeepkogcmlmaa
set_option linter.unusedSimpArgs false
set_option linter.unusedVariables false
open Go Go.RowKit
section
variable {P : Program} {ops : Array Oper}
def headA (ops : Array Oper) (n : Nat) : Array Bool := ((List.range ops.size).map fun j => decide (j < n)).toArray
theorem headA_eq {n : Nat} {listed : Array Bool} (hsz : listed.size = ops.size) (hn : n ≤ ops.size) (h1 : ∀ j, j < n → listed.getD j false = true) (h2 : ∀ j, n ≤ j → j < ops.size → listed.getD j true = false) : listed = headA ops n := by
  apply Array.ext
  · simp [headA, hsz]
  · intro j ha hb
    have hj : j < ops.size := by omega
    simp only [headA, List.getElem_toArray, List.getElem_map, List.getElem_range]
    rcases Nat.lt_or_ge j n with h | h
    · have := h1 j h
      simp [ha] at this
      simp [this, h]
    · have := h2 j h hj
      simp [ha] at this
      simp [this]; omega
theorem wpAny_seq_more {Q' : Exit → Act → World → Prop} : ∀ (l : List Oper) (m k : Nat) (listed : Array Bool) (a : Act) (w : World), (∀ j, l[j]? = ops[k + j]?) →
    Region.seqB .any ops l.length k listed = true → wpList P ops Q' l a w → wpAny P .any ops Q' (l.length + m) listed a w
  | [], m, k, listed, a, w, _, hB, h => by
    have h0 : Region.ready .any ops listed = [] := by simpa [Region.seqB] using hB
    cases m with
    | zero => exact ⟨h0, h⟩
    | succ m => simp only [List.length_nil, Nat.zero_add]; exact ⟨fun _ => h, fun i hi => by rw [h0] at hi; cases hi⟩
  | o :: l, m, k, listed, a, w, hl, hB, h => by
    have h0 : ops[k]? = some o := by simpa using (hl 0).symm
    simp only [List.length_cons, Region.seqB, Bool.and_eq_true, decide_eq_true_eq] at hB
    rw [show (o :: l).length + m = (l.length + m) + 1 by simp only [List.length_cons]; omega]
    refine ⟨fun h1 => (by rw [hB.1] at h1; cases h1), fun i hi => ?_⟩
    rw [hB.1] at hi
    have hik : i = k := by simpa using hi
    subst hik
    have hw : wpOp P ops Q' i (wpList P ops Q' l) a w := by unfold wpOp; simp only [h0]; exact h
    exact wpOp_mono (fun a' w' h' => wpAny_seq_more l m (i + 1) _ a' w' (fun j => by have := hl (j + 1); simpa [Nat.add_assoc, Nat.add_comm 1 j] using this) hB.2 h') hw
theorem allW_take {R : World → World → Prop} {Φ : List (Value → World → Prop)} {a0 : Act} {w0 : World} (D0 : List (List Nat)) (C0 : List (List (Nat × Nat))) (hC : ∀ i, i < ops.size → C0.getD i [] = canonL ops D0.toArray i) :
    ∀ (l : List Oper) (i : Nat) (D : List (List Nat)) (C : List (List (Nat × Nat))), i + l.length ≤ ops.size → (∀ k, D[k]? = D0[i + k]?) → (∀ k, C[k]? = C0[i + k]?) → allW P ops R Φ a0 w0 i l D C →
      allWords (opWord P ops R D0.toArray (fun j => Φ.getD j (fun _ _ => True)) a0 w0) i l := by
    intro l
    induction l with
    | nil => intros; trivial
    | cons o r ih =>
      intro i D C hl hD hC' h
      match D, C, h with
      | d :: ds, c :: cs, h =>
        obtain ⟨h1, h2⟩ := h
        refine ⟨?_, ih (i + 1) ds cs (by simp at hl; omega) (fun k => ?_) (fun k => ?_) h2⟩
        · have hd : D0.toArray.getD i [] = d := by
            have := hD 0
            simp at this
            simp [Array.getD_eq_getD_getElem?, ← this]
          have hc : canonL ops D0.toArray i = c := by
            rw [← hC i (by simp at hl; omega)]
            have := hC' 0
            simp at this
            simp [List.getD_eq_getElem?_getD, ← this]
          intro y w hR hj K hK
          rw [hd] at hj
          rw [hc] at hK ⊢
          exact h1 y w hR (depsH_of _ hj) K (fun a' v w' he hr hφ => by subst he; exact hK v w' hr hφ)
        · have := hD (k + 1)
          simp at this
          rw [this]; congr 1; omega
        · have := hC' (k + 1)
          simp at this
          rw [this]; congr 1; omega

theorem wpAny_of_factsN {R : World → World → Prop} {D : Array (List Nat)} {Φ : Nat → Value → World → Prop} {a0 : Act} {w0 : World} {Q : Exit → Act → World → Prop}
    (hRt : ∀ {a b c : World}, R a b → R b c → R a c) (hchk : factsOK ops D = true) (hst : ∀ j v w w', R w w' → Φ j v w → Φ j v w') (hrr : ∀ w, R w w)
    {n : Nat} (hop : ∀ i o, i < n → ops[i]? = some o → opWord P ops R D Φ a0 w0 i o) (hn : n < ops.size) (hs : Region.sinkB .any ops n = true) (hc : Region.chainB .any ops n = true)
    (hq : Region.seqB .any ops (ops.size - n) n (headA ops n) = true)
    (hfin : ∀ y w, R w0 w → (∀ j, j < n → Φ j (y j) w) → wpList P ops Q (ops.toList.drop n) (fillL y ((pairsOf ops).filter fun q => decide (q.2 < n)) a0) w) :
    ∀ (f : Nat) (listed : Array Bool) (a : Act) (w : World) (y : Nat → Value), ((List.range n).filter fun j => !listed.getD j true).length ≤ f →
      InvF ops R D Φ a0 w0 listed a w y → HeadInv .any ops n listed → wpAny P .any ops Q (f + (ops.size - n)) listed a w := by
  simp only [factsOK, Bool.and_eq_true, List.all_eq_true, List.mem_range] at hchk
  obtain ⟨hkeys, hrows⟩ := hchk
  -- nothing ready: all has been listed
  have hall : ∀ (listed : Array Bool), listed.size = ops.size → Region.ready .any ops listed = [] → ∀ j, j < ops.size → listed.getD j false = true := by
    intro listed hs hnil j
    induction j using Nat.strongRecOn with
    | ind j ih =>
      intro hj
      cases hl : listed.getD j false with
      | true => rfl
      | false =>
        exfalso
        have hmem : j ∈ Region.ready .any ops listed := by
          rw [mem_ready]
          refine ⟨by rw [listed_cases (by omega)]; exact hl, ops[j], Array.getElem?_eq_getElem hj, fun e he hb => ?_⟩
          have hrow := hrows j hj
          rw [Array.getElem?_eq_getElem hj] at hrow
          simp only [Bool.and_eq_true, List.all_eq_true, decide_eq_true_eq] at hrow
          have hlt := hrow.1 e.on (List.mem_map.2 ⟨e, List.mem_filter.2 ⟨by simpa using he, hb⟩, rfl⟩)
          exact ih e.on hlt (by omega)
        rw [hnil] at hmem
        cases hmem
  -- the head has been listed
  have hdone : ∀ (m : Nat) (listed : Array Bool) (a : Act) (w : World) (y : Nat → Value), InvF ops R D Φ a0 w0 listed a w y → HeadInv .any ops n listed → (∀ j, j < n → listed.getD j false = true) → wpAny P .any ops Q (m + (ops.size - n)) listed a w := by
    intro m listed a w y hI hH hl
    have he : listed = headA ops n := headA_eq hI.size (by omega) hl hH.tail
    have hlen : (ops.toList.drop n).length = ops.size - n := by simp
    have hw := hfin y w hI.grown (fun j hj => hI.facts j (hl j hj))
    rw [fillL_filter y _ _ a0 hkeys, ← hI.act] at hw
    · rw [Nat.add_comm, ← hlen]
      refine wpAny_seq_more (ops.toList.drop n) m n listed a w (fun j => by simp) ?_ hw
      rw [hlen, he]; exact hq
    · rintro ⟨d, j⟩ hq' hp
      simp only [decide_eq_false_iff_not] at hp
      have hdst := mem_pairsOf.1 hq'
      have hj : j < ops.size := by
        rcases Nat.lt_or_ge j ops.size with h' | h'
        · exact h'
        · rw [Array.getElem?_eq_none h'] at hdst; cases hdst
      exact hI.open_ j d (hH.tail j (by omega) hj) hdst
  intro f
  induction f with
  | zero =>
    intro listed a w y hlen hI hH
    refine hdone 0 listed a w y hI hH fun j hj => ?_
    cases hl : listed.getD j false with
    | true => rfl
    | false =>
      exfalso
      have h0 : ((List.range n).filter fun j => !listed.getD j true) = [] := List.length_eq_zero_iff.1 (by omega)
      have : j ∈ ((List.range n).filter fun j => !listed.getD j true) := List.mem_filter.2 ⟨List.mem_range.2 hj, by rw [listed_cases (by rw [hI.size]; omega), hl]; rfl⟩
      rw [h0] at this; cases this
  | succ fuel ih =>
    intro listed a w y hlen hI hH
    by_cases hh : ∀ j, j < n → listed.getD j false = true
    · exact hdone (fuel + 1) listed a w y hI hH hh
    obtain ⟨j0, hj0, hl0⟩ : ∃ j, j < n ∧ listed.getD j true = false := by
      apply Classical.byContradiction
      intro hno
      refine hh fun j hj => ?_
      cases hl : listed.getD j false with
      | true => rfl
      | false => exact absurd ⟨j, hj, by rw [listed_cases (by rw [hI.size]; omega)]; exact hl⟩ hno
    rw [show fuel + 1 + (ops.size - n) = (fuel + (ops.size - n)) + 1 by omega]
    refine ⟨fun hnil => ?_, fun i hi => ?_⟩
    · have := hall listed hI.size hnil j0 (by omega)
      rw [← listed_cases (by rw [hI.size]; omega), hl0] at this; cases this
    have hin : i < n := by
      rcases Nat.lt_or_ge i n with h | h
      · exact h
      · exact absurd hi (tail_waits hs hc hn hH _ j0 rfl hj0 hl0 i h)
    obtain ⟨hun, o, ho, hedges⟩ := mem_ready.1 hi
    have hilt : i < ops.size := (Array.getElem?_eq_some_iff.1 ho).1
    have hunf : listed.getD i false = false := by rw [← listed_cases (by rw [hI.size]; exact hilt)]; exact hun
    have hrow := hrows i hilt
    rw [ho] at hrow
    simp only [Bool.and_eq_true, List.all_eq_true, decide_eq_true_eq, List.any_eq_true, Bool.or_eq_true, beq_iff_eq, List.contains_iff_mem] at hrow
    -- what i waits for has been listed
    have hD : ∀ k ∈ D.getD i [], listed.getD k false = true := by
      intro k hk
      obtain ⟨e, he, hek⟩ := hrow.2 k hk
      obtain ⟨ed, hed, rfl⟩ := List.mem_map.1 he
      obtain ⟨hed1, hed2⟩ := List.mem_filter.1 hed
      have hl := hedges ed (by simpa using hed1) hed2
      rcases hek with rfl | hek
      · exact hl
      · exact hI.closed _ hl k hek
    have hcan : fillL y (canonL ops D i) a0 = a := by
      rw [hI.act]
      refine fillL_filter y _ _ a0 hkeys ?_
      rintro ⟨d, j⟩ hq hp
      simp only [Bool.not_eq_false', Bool.or_eq_true, beq_iff_eq] at hp
      have hdst := mem_pairsOf.1 hq
      refine hI.open_ j d ?_ hdst
      rcases hp with rfl | hw
      · exact hun
      · have hjlt : j < listed.size := by
          rw [hI.size]
          rcases Nat.lt_or_ge j ops.size with h' | h'
          · exact h'
          · rw [Array.getElem?_eq_none h'] at hdst; cases hdst
        rw [listed_cases hjlt]
        cases hl : listed.getD j false with
        | false => rfl
        | true =>
          have := hI.closed j hl i (by simpa [waits] using hw)
          rw [hunf] at this
          cases this
    have hw := hop i o hin ho y w hI.grown (fun j hj => hI.facts j (hD j hj)) (fun a' w' => ∃ v, a' = a.put o.dst v ∧ R w w' ∧ Φ i v w')
    rw [hcan] at hw
    have hlen' : ((List.range n).filter fun j => !(listed.setIfInBounds i true).getD j true).length ≤ fuel := by
      have : ((List.range n).filter fun j => !(listed.setIfInBounds i true).getD j true).length < ((List.range n).filter fun j => !listed.getD j true).length := by
        refine filter_lt _ i (fun j hj => ?_) (List.mem_range.2 hin) (by rw [hun]; rfl) ?_
        · by_cases hij : i = j
          · subst hij
            have h2 : i < listed.size := by rw [hI.size]; exact hilt
            simp [h2] at hj
          · rw [getD_set_ne true hij] at hj; exact hj
        · have h2 : i < listed.size := by rw [hI.size]; exact hilt
          simp [h2]
      omega
    have hnext : ∀ v w', R w w' → Φ i v w' → wpAny P .any ops Q (fuel + (ops.size - n)) (listed.setIfInBounds i true) (a.put o.dst v) w' := by
      intro v w' hr hφ
      have h2 : i < listed.size := by rw [hI.size]; exact hilt
      refine ih _ _ _ (fun k => if k = i then v else y k) hlen' ⟨by simp [hI.size], ?_, hRt hI.grown hr, ?_, ?_, ?_⟩ (hH.set hi hin)
      · cases hd : o.dst with
        | none =>
          rw [hI.act]
          show fillL y (pairsOf ops) a0 = _
          refine fillL_congr _ _ _ _ fun p hp => ?_
          have := mem_pairsOf.1 (show (p.1, p.2) ∈ pairsOf ops from hp)
          have hne : p.2 ≠ i := fun he => by rw [he, ho] at this; simp [hd] at this
          simp [hne]
        | some d =>
          rw [hI.act, fillL_set y i v _ a0 d hkeys (mem_pairsOf.2 (by simp [ho, hd]))]
      · intro j hj
        by_cases hji : j = i
        · subst hji; simpa using hφ
        · simp only [hji, if_false]
          rw [getD_set_ne false (Ne.symm hji)] at hj
          exact hst j _ _ _ hr (hI.facts j hj)
      · intro j d hj hdst
        have hji : j ≠ i := fun he => by subst he; simp [h2] at hj
        simp only [hji, if_false]
        rw [getD_set_ne true (Ne.symm hji)] at hj
        exact hI.open_ j d hj hdst
      · intro j hj k hk
        by_cases hji : j = i
        · subst hji; exact getD_set_true (hD k hk)
        · rw [getD_set_ne false (Ne.symm hji)] at hj
          exact getD_set_true (hI.closed j hj k hk)
    unfold wpOp
    simp only [ho]
    have hw2 := hw (fun v w' hr hφ => ⟨v, rfl, hr, hφ⟩)
    split at hw2
    · rename_i hwa
      rw [if_pos hwa]
      refine .inl ?_
      have h3 : o.wp P a w (wpAny P .any ops Q (fuel + (ops.size - n)) (listed.setIfInBounds i true)) (fun _ _ _ => False) :=
        Oper.wp_mono (fun a' w' ⟨v, he, hr, hφ⟩ => by subst he; exact hnext v w' hr hφ) hw2
      exact wp_exit h3
    · rename_i hwa
      rw [if_neg hwa]
      obtain ⟨v, he, hr, hφ⟩ := hw2
      rw [he]
      exact hnext v w hr hφ
where
  wp_exit {o : Oper} {a : Act} {w : World} {K : Act → World → Prop} {Q : Exit → Act → World → Prop} (h : o.wp P a w K (fun _ _ _ => False)) : o.wp P a w K Q := by
    unfold Oper.wp at *
    generalize (execOp a.eval o).run P w = r at *
    cases r with
    | ok n w' =>
      cases n <;> simp only [Oper.upon] at h ⊢
      case enter f args =>
        refine Calls.mono h fun e w'' he => ?_
        cases e with
        | returned v => exact he
        | panicked c => exact he.elim
        | outgrown => obtain ⟨_, _, hq⟩ := he; exact hq.elim
      all_goals exact h
    | halt x w' => cases x <;> simp only [Oper.upon] at h

/-- **A region that draws its order, a tail of it in order; the tables written out (n: the operations ahead of the tail; F: their pairs).** -/
theorem wp_region_tablesN {id : Nat} {a0 : Act} {w0 : World} {Q : Exit → Act → World → Prop} (R : World → World → Prop) (n : Nat) (D : List (List Nat)) (C : List (List (Nat × Nat))) (F : List (Nat × Nat)) (Φ : List (Value → World → Prop)) (hm : P.follows .mixedOrders = true)
    (hRt : ∀ {a b c : World}, R a b → R b c → R a c) (hrr : ∀ w, R w w) (hd : R w0 w0.drew)
    (hchk : (tablesOK ops D C (pairsOf ops) && decide (F = (pairsOf ops).filter fun q => decide (q.2 < n)) && decide (n < ops.size) && Region.sinkB .any ops n && Region.chainB .any ops n && Region.seqB .any ops (ops.size - n) n (headA ops n)) = true) (hst : stL R Φ)
    (hlen : Φ.length = n)
    (hop : allW P ops R Φ a0 w0 0 (ops.toList.take n) D C)
    (hfin : ∀ y w, R w0 w → factsH y w 0 Φ → wpList P ops Q (ops.toList.drop n) (fillL y F a0) w) : (Code.region id ops true).wp P Q a0 w0 := by
  simp only [Bool.and_eq_true, decide_eq_true_eq] at hchk
  obtain ⟨⟨⟨⟨⟨hchk, hF⟩, hn⟩, hs⟩, hc⟩, hq⟩ := hchk
  simp only [tablesOK, Bool.and_eq_true, decide_eq_true_eq, List.all_eq_true, List.mem_range] at hchk
  obtain ⟨⟨h1, h2⟩, h3⟩ := hchk
  subst hF
  refine wp_region_any hm ?_
  have hfuel : ops.size = n + (ops.size - n) := by omega
  rw [show wpAny P .any ops Q ops.size = wpAny P .any ops Q (n + (ops.size - n)) by rw [← hfuel]]
  refine wpAny_of_factsN (R := R) (D := D.toArray) (Φ := fun j => Φ.getD j (fun _ _ => True)) (a0 := a0) (w0 := w0) hRt h1 ?_ hrr (n := n) (fun i o hi ho => ?_) hn hs hc hq (fun y w hr hf => hfin y w hr (factsH_of Φ 0 (by simp) (fun j h => hf j (by omega)))) n _ a0 _ (fun j => match (ops[j]?).bind (·.dst) with | some d => a0.tmps.getD d undef | none => undef) ?_ ⟨by simp, ?_, hd, ?_, ?_, ?_⟩ ⟨by simp, fun j oj _ hl => (by rw [getD_replicate_false] at hl; cases hl), fun t _ ht => getD_in (by simpa using ht) (getD_replicate_false _ _)⟩
  · intro j v w w' hr hφ
    rcases Nat.lt_or_ge j Φ.length with hj | hj
    · have e : Φ.getD j (fun _ _ => True) = Φ[j] := by simp [List.getD_eq_getElem?_getD, hj]
      simp only [e] at hφ ⊢
      exact stL_mem Φ hst _ (List.getElem_mem hj) v w w' hr hφ
    · have e : Φ.getD j (fun _ _ => True) = fun _ _ => True := by simp [List.getD_eq_getElem?_getD, hj]
      simp only [e]
  · have hd2 := allW_take D C h3 (ops.toList.take n) 0 D C (by simp; omega) (by simp) (by simp) hop
    have := allWords_get _ 0 i o hd2 (by rw [List.getElem?_take]; simp [hi]; simpa using ho)
    simpa using this
  · exact Nat.le_trans (List.length_filter_le _ _) (by simp)
  · symm
    have : ∀ (L : List (Nat × Nat)), (∀ p ∈ L, (ops[p.2]?).bind (·.dst) = some p.1) → fillL (fun j => match (ops[j]?).bind (·.dst) with | some d => a0.tmps.getD d undef | none => undef) L a0 = a0 := by
      intro L
      induction L with
      | nil => intro _; rfl
      | cons p L ih =>
        intro h
        obtain ⟨d, j⟩ := p
        have hd := h (d, j) (by simp)
        simp only at hd
        show fillL _ L (a0.put (some d) _) = a0
        simp only [hd]
        rw [put_self]
        exact ih (fun p hp => h p (by simp [hp]))
    exact this _ (fun p hp => mem_pairsOf.1 hp)
  · intro j hj
    rw [getD_replicate_false] at hj; cases hj
  · intro j d _ hdst
    simp only [hdst]
    exact put_self a0 d
  · intro j hj
    rw [getD_replicate_false] at hj; cases hj
end
end Go.Proofs.Ytfbeepkogcmlmaa

/-
  Normal forms, the reference: of. Conditions: the tree lies in memory and is valid.
-/
namespace Go.Proofs.Ytfbeepkogcmlmaa
open Go Go.ChangeShapes Go.WideShapes Go.ChangeAt Go.RowKit Go.Joins Go.Deep
set_option linter.unusedVariables false
set_option linter.unusedSimpArgs false

/-- What a valid node's other fields are. -/
theorem val_fields {b : Nat} {k n u : Int} {s : ByteArray} {keys : List ByteArray} {l : List Tr} (h : valT b (.mk k n u s keys l)) :
    (1 ≤ k ∧ k ≤ 17) ∧ (¬ (k = 2 ∨ k = 3 ∨ k = 8) → n = 0) ∧ (¬ (k = 4 ∨ k = 9) → u = 0) ∧ (¬ (k = 5 ∨ k = 6 ∨ k = 7) → s = ⟨#[]⟩) ∧ (k ≠ 17 → keys = []) ∧ (k ≤ 9 → l = []) ∧ (k = 17 → keys.length = l.length) := by
  have hs : suchB (.mk k n u s keys l) = true := h.2.1
  have hk := such_kind1 hs
  have hl : ∀ x ∈ l, 1 ≤ x.kind := fun x hx => by
    have hx2 := valL_iff.1 h.2.2.2 x hx
    have : suchB x = true := by cases x; exact hx2.2.1
    exact (such_kind1 this).1
  have h2 := hs
  simp only [suchB, Bool.and_eq_true, Bool.or_eq_true, decide_eq_true_eq] at h2
  obtain ⟨⟨⟨⟨⟨⟨⟨⟨h1, hn⟩, hu⟩, hst⟩, hky⟩, _⟩, hmp⟩, _⟩, _⟩ := h2
  simp only [Tr.kind] at hk
  refine ⟨hk, fun hh => ?_, fun hh => ?_, fun hh => ?_, fun hh => ?_, fun hh => such_leaf hs (by unfold leafB; exact decide_eq_true ⟨hk.1, hh⟩) hl, fun hh => by simpa [hh] using hmp⟩
  · refine hn.resolve_left fun e => ?_
    unfold usesF at e
    split at e
    · exact hh (by assumption)
    · repeat' split at e
      all_goals omega
  · refine hu.resolve_left fun e => ?_
    unfold usesF at e
    repeat' split at e
    all_goals first | omega | exact hh (by assumption)
  · refine bytes_nil (hst.resolve_left fun e => ?_)
    unfold usesF at e
    repeat' split at e
    all_goals first | omega | exact hh (by assumption)
  · refine List.eq_nil_of_length_eq_zero (hky.resolve_left fun e => ?_)
    unfold usesF at e
    repeat' split at e
    all_goals first | omega | exact hh (by assumption)
/-- A tree of one's own, handed back through a cell. -/
theorem own_ret {w x1 wr : World} {N : Nat} {t : Tr} {v : Value} (hN : w.heap.size = N) (hx : N + 2 ≤ x1.heap.size) (h : OwnT wr x1.heap.size t v (Fresh x1 wr)) (hg : Grew w wr) (a b c d e f : Value) :
    ∃ v', Ending.returned v = .returned v' ∧ OwnT (store6 wr (N + 1) a b c d e f) w.heap.size t v' (Fresh w (store6 wr (N + 1) a b c d e f)) ∧ Grew w (store6 wr (N + 1) a b c d e f) := by
  have hT : Moved (fun k => k = N + 1) wr (store6 wr (N + 1) a b c d e f) := moved_store6 wr (N + 1) a b c d e f
  have hs := hT.size
  have hw : w.heap.size ≤ x1.heap.size := by omega
  exact ⟨v, rfl, ((h.kept hT (fun g hS e => by have := hS.1; omega)).base hw).mono (fun g hS => ⟨by have := hS.1; omega, by have := hS.2; omega⟩), Moved.fresh hg hT (fun g e => by omega)⟩
/-- A map's tree: its keys copied behind its children. -/
theorem own_map {w0 W w w' : World} {ga : Option Addr} {m gc : Nat} {kv : Value} {ts : List Tr} {keys : List ByteArray} (h : Grow (fun _ => False) W w (.slice ga m gc) ts) (hk : OwnS w' w.heap.size kv keys) (hg : Grew w w') (hz : ∀ q ∈ keys, lenok q.size) (h0 : w0.heap.size ≤ W.heap.size) :
    OwnT w' w0.heap.size (.mk 17 0 0 ⟨#[]⟩ keys ts) (.agg #[.int .i64 17, .int .i64 0, .int .u64 0, .string ⟨#[]⟩, kv, .slice ga m gc]) (Fresh w0 w') := by
  obtain ⟨vs, S, h1, h2, h3, h4⟩ := h
  have hs := h4.size
  have hs2 := hg.size
  simp only [OwnT]
  refine ⟨⟨by unfold i64ok; omega, by unfold i64ok; omega, by unfold u64ok; omega, by unfold lenok; decide, hz⟩, kv, _, vs, S, rfl, rows_base hk (by omega), ⟨rows_base (h1.grew hg).1 h0, h1.2⟩, fun g hg' => ⟨?_, fun hs' => ?_⟩, fun g hg' => ⟨?_, fun hs' => (h3 g hs').2.2 hg'⟩, fun g hg' hg2 => ?_, fun g hg' => ?_, (h2.grew hg).base h0⟩
  · have := World.ownsRow.lt hk g hg'; exact ⟨by omega, this.2⟩
  · have := World.ownsRow.lt hk g hg'; have := h3 g hs'; omega
  · have := World.ownsRow.lt h1.1 g hg'; exact ⟨by omega, by omega⟩
  · have h5 := World.ownsRow.lt hk g hg'; have h6 := World.ownsRow.lt h1.1 g hg2; omega
  · have := h3 g hg'; exact ⟨by omega, by omega⟩
set_option maxRecDepth 100000 in
set_option maxHeartbeats 4000000 in
theorem rof_any : ∀ (m : Nat) (t : Tr), t.size ≤ m → ∀ (b : Nat), valT b t → t.size ≤ 4096 → ∀ (v : Value) (w : World), NodeAt w t v → Calls Try.prog 31 #[v] w fun r w' => ∃ v', r = .returned v' ∧ OwnT w' w.heap.size (ofT t) v' (Fresh w w') ∧ Grew w w' := by
  intro m
  induction m with
  | zero => intro t ht; have := t.size_pos; omega
  | succ m ih =>
    intro t hm b hv hfew v w hn
    obtain ⟨k, n, u, s, keys, l⟩ := t
    have hvf := val_fields hv
    have hvl := valL_iff.1 hv.2.2.2
    have HVL := Lib.hid hvl
    obtain ⟨hb, kv, lv, vs, rfl, hks, hrl, hkd⟩ := hn
    have hkl := hkd.length
    have HKD := Lib.hid hkd
    have HKS := Lib.hid hks
    obtain ⟨a4, c4, rfl, hk1, hk2, hk3, hkz⟩ := hks
    have HRL := Lib.hid hrl
    obtain ⟨a5, c5, rfl, hl1, hl2, hl3, hl4⟩ := hrl
    rw [hkl] at HRL hl1 ⊢
    have hlen : l.length ≤ 4096 := by have := length_sizeL l; have := hfew; simp only [Tr.size] at this; omega
    have HKL : Hid (k = 17 → keys.length ≤ 1099511627776) := fun h => by rw [hvf.2.2.2.2.2.2 h]; omega
    have hlenk : keys.length ≤ 9223372036854775807 := by unfold lenok at hk2; omega
    have hlc : (l.length : Int) ≤ c5 := by omega
    have HSZ : Hid (∀ x ∈ l, x.size ≤ m ∧ x.size ≤ 4096) := fun x hx => by have := size_mem hx; simp only [Tr.size] at hm hfew; omega
    have HVF := Lib.hid hvf
    have HB := Lib.hid hb
    have HKZ : Hid (∀ q ∈ keys, lenok q.size) := fun q hq => by
      obtain ⟨i, hi⟩ := List.getElem?_of_mem hq
      exact (hkz i q hi).1
    clear hk1 hk2 hk3 hkz hl1 hl2 hl3 hl4 hkl hkd hv hvl hvf hb hm hfew
    obtain ⟨hk1, hk17⟩ := HVF.out.1
    have hrt := heap_alloc_new w (.cells #[.int .i64 k, .int .i64 n, .int .u64 u, .string s, .slice a4 keys.length c4, .slice a5 l.length c5] 26)
    have hga := (Grew.refl w).alloc (.cells #[.int .i64 k, .int .i64 n, .int .u64 u, .string s, .slice a4 keys.length c4, .slice a5 l.length c5] 26)
    have hz1 : (w.alloc (.cells #[.int .i64 k, .int .i64 n, .int .u64 u, .string s, .slice a4 keys.length c4, .slice a5 l.length c5] 26)).heap.size = w.heap.size + 1 := World.size_alloc _ _
    go_enter Try.func31, Try.ntmps31
    go_upto_region 1 with fail
    obtain ⟨pr, hpr⟩ : ∃ N, w.heap.size = N := ⟨_, rfl⟩
    generalize (w.alloc (.cells #[.int .i64 k, .int .i64 n, .int .u64 u, .string s, .slice a4 keys.length c4, .slice a5 l.length c5] 26)) = x0 at *
    rw [hpr] at hrt hz1
    try rw [hpr]
    have HPR := Lib.hid hpr
    have hro := heap_alloc_new x0 (.cells #[.int .i64 0, .int .i64 0, .int .u64 0, .string ⟨#[]⟩, .slice none 0 0, .slice none 0 0] 26)
    have hgb := (Grew.refl x0).alloc (.cells #[.int .i64 0, .int .i64 0, .int .u64 0, .string ⟨#[]⟩, .slice none 0 0, .slice none 0 0] 26)
    have hz2 : (x0.alloc (.cells #[.int .i64 0, .int .i64 0, .int .u64 0, .string ⟨#[]⟩, .slice none 0 0, .slice none 0 0] 26)).heap.size = pr + 2 := by rw [World.size_alloc, hz1]
    rw [hz1] at hro
    generalize (x0.alloc (.cells #[.int .i64 0, .int .i64 0, .int .u64 0, .string ⟨#[]⟩, .slice none 0 0, .slice none 0 0] 26)) = x1 at *
    try rw [hz1]
    have HRT := Lib.hid (hgb.heap hrt)
    have HRO := Lib.hid hro
    have HG := Lib.hid (hga.trans hgb)
    have HZ2 : Hid (pr + 2 ≤ x1.heap.size) := Nat.le_of_eq hz2.symm
    clear hrt hro hga hgb hz1 hz2 hpr
    go_wp2_with fail
    go_loopw [3, 4] (fun v i wr => ∃ kk : Nat, kk ≤ l.length ∧ i = .int .i64 kk ∧ Hid (Grow (fun _ => False) x1 wr v ((l.take kk).map ofT))) (fun _ i _ => l.length - (intOf i).toNat)
    case atStart => exact ⟨0, Nat.zero_le _, rfl, by show Grow _ _ _ _ _; exact Grow.start _ _⟩
    case round =>
      obtain ⟨kk, hkk, rfl, HW⟩ := hrel
      have hgw : Grew x1 wr := by obtain ⟨_, _, _, _, _, hm⟩ := HW.out; exact Moved.fresh (Grew.refl _) hm (fun g h => h.elim)
      have HGW := Lib.hid hgw
      have HRTW := Lib.hid (hgw.heap HRT.out)
      have HROW := Lib.hid (hgw.heap HRO.out)
      clear hgw
      have HGA := Lib.hid (HG.out.trans HGW.out)
      by_cases hlt : kk < l.length
      · obtain ⟨x, hx⟩ : ∃ x, l[kk]? = some x := ⟨_, List.getElem?_eq_getElem hlt⟩
        obtain ⟨xv, hxv, hnx⟩ := HKD.out.get hx
        have hxm : x ∈ l := List.mem_of_getElem? hx
        have HX := Lib.hid (show (l.take kk).map ofT ++ [ofT x] = (l.take (kk + 1)).map ofT by rw [List.take_add_one, hx]; simp)
        have HXS := Lib.hid (HSZ.out x hxm)
        have HXV := Lib.hid (HVL.out x hxm)
        obtain ⟨kb, ko, rfl, hc6⟩ : ∃ b off, a5 = some ⟨b, off, none⟩ ∧ Cells6 wr b (off + kk * 6) xv := by
          obtain ⟨a, c, e, _, _, _, h⟩ := HRL.out
          injection e with e1 e2 e3
          subst e1
          obtain ⟨b, off, e, h6⟩ := h kk xv hxv
          exact ⟨b, off, e, h6.grew HGA.out⟩
        obtain ⟨xk, xn, xu, xs, xa4, xn4, xc4, xa5, xn5, xc5, rfl⟩ := hnx.node6
        obtain ⟨f0, f1, f2, f3, f4, f5⟩ := hc6.get
        have HNX := Lib.hid (hnx.grew HGA.out)
        have e5 := row_cellT HRTW.out 5 _ rfl
        have hlti : (kk : Int) < l.length := by omega
        clear hc6 hx hxv hnx hxm
        go_wp2_with fail
        refine (ih x HXS.out.1 _ HXV.out HXS.out.2 _ wr HNX.out).mono ?_
        rintro r w4 ⟨xv, rfl, hox, hg4⟩
        clear f0 f1 f2 f3 f4 f5 e5
        obtain ⟨yk, yn, yu, ys, ya4, yn4, yc4, ya5, yn5, yc5, rfl⟩ := hox.node6
        have HOX := Lib.hid hox
        have HG4 := Lib.hid hg4
        obtain ⟨vs4, S4, q1, q2, q3, q4⟩ := HW.out
        obtain ⟨ga, gc, rfl, hz1, hz2, hz3⟩ := HW.out.form
        have HV4 : Hid (vs4.length ≤ 4096) := by show _ ≤ _; rw [q2.length, List.length_map, List.length_take]; omega
        have HQ1 := Lib.hid q1
        have HQ2 := Lib.hid q2
        have HQ3 := Lib.hid q3
        have HQ4 := Lib.hid q4
        have HON : Hid (∀ o, OwnN (w4.alloc o) x1.heap.size (.slice ga ((l.take kk).map ofT).length gc) vs4) := fun o => (q1.grew hg4).grew ((Grew.refl _).alloc o)
        have HSZ4 : Hid (∀ o, x1.heap.size ≤ (w4.alloc o).heap.size) := fun o => Nat.le_trans (Nat.le_trans HGW.out.size hg4.size) ((Grew.refl w4).alloc o).size
        clear q1 q2 q3 q4 hz1 hz2 hz3 hox hg4 HW
        generalize (l.take kk).map ofT = L at *
        go_wp2_with (at_builtin; refine wpList_appendN rfl _ _ rfl x1.heap.size _ vs4 rfl (HON.out _) _ _ (.agg #[.int .i64 yk, .int .i64 yn, .int .u64 yu, .string ys, .slice ya4 yn4 yc4, .slice ya5 yn5 yc5]) rfl (heap_alloc_new _ _) ⟨_, _, _, _, _, _, _, _, _, _, rfl⟩ (by have := HV4.out; omega) (HSZ4.out _) ?_; intro v' w5 hown hgr hnx; obtain ⟨va2, vc2, rfl, hz1, hz2, hz3⟩ := rows_form hown.1; have HG5 := Lib.hid (Grow.step (R := fun _ => False) (fun g h => h.elim) vs4 S4 HQ2.out HQ1.out HQ3.out HQ4.out HOX.out (Moved.of_grew HG4.out) _ hown hgr hnx); clear hown hgr hnx hz1 hz2 hz3)
        go_roundw
        case rel =>
          refine ⟨kk + 1, by omega, by go_num, ?_⟩
          show Grow _ _ _ _ _
          rw [← HX.out]
          have hh := HG5.out
          rw [List.length_append] at hh
          exact hh
        case measure => simp [intOf]; omega
      · have ek : kk = l.length := by omega
        subst ek
        have hw := HW.out
        rw [List.take_length, ← ofL_map] at hw
        have HE := Lib.hid hw
        obtain ⟨ga, gc, rfl, hz1, hz2, hz3⟩ := HE.out.form
        rw [ofL_len] at HE ⊢
        clear hw HW hz1 hz2 hz3 hlt
        have d0 := row_cellT HRTW.out 0 _ rfl
        have d1 := row_cellT HRTW.out 1 _ rfl
        have d2 := row_cellT HRTW.out 2 _ rfl
        have d3 := row_cellT HRTW.out 3 _ rfl
        have d4 := row_cellT HRTW.out 4 _ rfl
        have d5 := row_cellT HRTW.out 5 _ rfl
        clear HRTW
        have HTREE : Hid (∀ (k2 n2 u2 : Int) (s2 : ByteArray), i64ok k2 ∧ i64ok n2 ∧ u64ok u2 ∧ lenok s2.size → OwnT wr x1.heap.size (.mk k2 n2 u2 s2 [] (ofL l)) (.agg #[.int .i64 k2, .int .i64 n2, .int .u64 u2, .string s2, .slice none 0 0, .slice ga l.length gc]) (Fresh x1 wr)) := fun k2 n2 u2 s2 hb => HE.out.tree ⟨hb.1, hb.2.1, hb.2.2.1, hb.2.2.2, fun _ h => by cases h⟩ (Nat.le_refl _) (OwnS.nil _ _) (fun g h => by cases h)
        have HLEAF : Hid (∀ (k2 n2 u2 : Int) (s2 : ByteArray), i64ok k2 ∧ i64ok n2 ∧ u64ok u2 ∧ lenok s2.size → OwnT wr x1.heap.size (.mk k2 n2 u2 s2 [] []) (.agg #[.int .i64 k2, .int .i64 n2, .int .u64 u2, .string s2, .slice none 0 0, .slice none 0 0]) (Fresh x1 wr)) := fun k2 n2 u2 s2 hb => OwnT.mono (S := fun _ => False) ⟨⟨hb.1, hb.2.1, hb.2.2.1, hb.2.2.2, fun _ h => by cases h⟩, _, _, [], fun _ => False, rfl, OwnS.nil _ _, OwnN.nil _ _, fun g h => (by cases h), fun g h => (by cases h), fun g h => (by cases h), fun g h => h, rfl⟩ (fun _ h => h.elim)
        have z0 := row_cellT HROW.out 0 _ rfl
        have z1 := row_cellT HROW.out 1 _ rfl
        have z2 := row_cellT HROW.out 2 _ rfl
        have z3 := row_cellT HROW.out 3 _ rfl
        have z4 := row_cellT HROW.out 4 _ rfl
        have z5 := row_cellT HROW.out 5 _ rfl
        have q0 := row_frozen HROW.out 0
        have q1 := row_frozen HROW.out 1
        have q2 := row_frozen HROW.out 2
        have q3 := row_frozen HROW.out 3
        have q4 := row_frozen HROW.out 4
        have q5 := row_frozen HROW.out 5
        obtain ⟨hbk, hbn, hbu, hbs⟩ := HB.out
        have HBN := Lib.hid hbn
        have HBU := Lib.hid hbu
        have HBS := Lib.hid hbs
        have hu0 : 0 ≤ u ∧ u ≤ 18446744073709551615 := hbu
        clear hbk hbn hbu hbs
        obtain ⟨_, hn0, hu00, hs0, hky0, hl0, hkl0⟩ := HVF.out
        have HF := Lib.hid (And.intro hn0 (And.intro hu00 (And.intro hs0 (And.intro hky0 hl0))))
        clear hn0 hu00 hs0 hky0 hl0 hkl0
        rcases kinds k hk1 hk17 with rfl | rfl | rfl | rfl | rfl | rfl | rfl | rfl | rfl | rfl | rfl | rfl | rfl | rfl | rfl | rfl | rfl
        · have hl0 : l = [] := HF.out.2.2.2.2 (by omega)
          have hk0 : keys = [] := HF.out.2.2.2.1 (by decide)
          have hn0 : n = 0 := HF.out.1 (by decide)
          have hu00 : u = 0 := HF.out.2.1 (by decide)
          have hs0 : s = ⟨#[]⟩ := HF.out.2.2.1 (by decide)
          subst hn0
          subst hs0
          go_wp2_with fail
          refine (rleaf_any 1 _).mono ?_
          rw [show leafB 1 = true by decide]
          rintro r w9 ⟨rfl, hw9⟩
          obtain rfl : wr = w9 := hw9.symm
          have HT : Hid (ofT (.mk 1 0 u ⟨#[]⟩ keys l) = .mk 1 0 0 ⟨#[]⟩ [] []) := by show _ = _; rw [hl0, hk0, hu00]; rfl
          clear hl0 hk0 hu00
          have HFN : Hid (∃ v', Ending.returned (.agg #[.int .i64 1, .int .i64 0, .int .u64 0, .string ⟨#[]⟩, .slice none 0 0, .slice none 0 0]) = .returned v' ∧ OwnT (store6 wr (pr + 1) (.int .i64 1) (.int .i64 0) (.int .u64 0) (.string ⟨#[]⟩) (.slice none 0 0) (.slice none 0 0)) w.heap.size (ofT (.mk 1 0 u ⟨#[]⟩ keys l)) v' (Fresh w (store6 wr (pr + 1) (.int .i64 1) (.int .i64 0) (.int .u64 0) (.string ⟨#[]⟩) (.slice none 0 0) (.slice none 0 0))) ∧ Grew w (store6 wr (pr + 1) (.int .i64 1) (.int .i64 0) (.int .u64 0) (.string ⟨#[]⟩) (.slice none 0 0) (.slice none 0 0))) := by rw [HT.out]; exact own_ret HPR.out HZ2.out (HLEAF.out 1 (0) 0 (⟨#[]⟩) ⟨by unfold i64ok; omega, by unfold i64ok; omega, by unfold u64ok; omega, by unfold lenok; decide⟩) HGA.out _ _ _ _ _ _
          go_wp2_with fail
          refine bodyPost_ret (v := .agg #[.int .i64 1, .int .i64 0, .int .u64 0, .string ⟨#[]⟩, .slice none 0 0, .slice none 0 0]) (by simp [results, Try.results31, go_sem, z0, z1, z2, z3, z4, z5]) rfl ?_
          exact HFN.out
        · have hl0 : l = [] := HF.out.2.2.2.2 (by omega)
          have hk0 : keys = [] := HF.out.2.2.2.1 (by decide)
          have hu00 : u = 0 := HF.out.2.1 (by decide)
          have hs0 : s = ⟨#[]⟩ := HF.out.2.2.1 (by decide)
          subst hs0
          go_wp2_with fail
          refine (rleaf_any 2 _).mono ?_
          rw [show leafB 2 = true by decide]
          rintro r w9 ⟨rfl, hw9⟩
          obtain rfl : wr = w9 := hw9.symm
          have HT : Hid (ofT (.mk 2 n u ⟨#[]⟩ keys l) = .mk 2 n 0 ⟨#[]⟩ [] []) := by show _ = _; rw [hl0, hk0, hu00]; rfl
          clear hl0 hk0 hu00
          have HFN : Hid (∃ v', Ending.returned (.agg #[.int .i64 2, .int .i64 n, .int .u64 0, .string ⟨#[]⟩, .slice none 0 0, .slice none 0 0]) = .returned v' ∧ OwnT (store6 wr (pr + 1) (.int .i64 2) (.int .i64 n) (.int .u64 0) (.string ⟨#[]⟩) (.slice none 0 0) (.slice none 0 0)) w.heap.size (ofT (.mk 2 n u ⟨#[]⟩ keys l)) v' (Fresh w (store6 wr (pr + 1) (.int .i64 2) (.int .i64 n) (.int .u64 0) (.string ⟨#[]⟩) (.slice none 0 0) (.slice none 0 0))) ∧ Grew w (store6 wr (pr + 1) (.int .i64 2) (.int .i64 n) (.int .u64 0) (.string ⟨#[]⟩) (.slice none 0 0) (.slice none 0 0))) := by rw [HT.out]; exact own_ret HPR.out HZ2.out (HLEAF.out 2 (n) 0 (⟨#[]⟩) ⟨by unfold i64ok; omega, HBN.out, by unfold u64ok; omega, by unfold lenok; decide⟩) HGA.out _ _ _ _ _ _
          go_wp2_with fail
          refine bodyPost_ret (v := .agg #[.int .i64 2, .int .i64 n, .int .u64 0, .string ⟨#[]⟩, .slice none 0 0, .slice none 0 0]) (by simp [results, Try.results31, go_sem, z0, z1, z2, z3, z4, z5]) rfl ?_
          exact HFN.out
        · have hl0 : l = [] := HF.out.2.2.2.2 (by omega)
          have hk0 : keys = [] := HF.out.2.2.2.1 (by decide)
          have hu00 : u = 0 := HF.out.2.1 (by decide)
          have hs0 : s = ⟨#[]⟩ := HF.out.2.2.1 (by decide)
          subst hs0
          go_wp2_with fail
          refine (rleaf_any 3 _).mono ?_
          rw [show leafB 3 = true by decide]
          rintro r w9 ⟨rfl, hw9⟩
          obtain rfl : wr = w9 := hw9.symm
          have HT : Hid (ofT (.mk 3 n u ⟨#[]⟩ keys l) = .mk 3 n 0 ⟨#[]⟩ [] []) := by show _ = _; rw [hl0, hk0, hu00]; rfl
          clear hl0 hk0 hu00
          have HFN : Hid (∃ v', Ending.returned (.agg #[.int .i64 3, .int .i64 n, .int .u64 0, .string ⟨#[]⟩, .slice none 0 0, .slice none 0 0]) = .returned v' ∧ OwnT (store6 wr (pr + 1) (.int .i64 3) (.int .i64 n) (.int .u64 0) (.string ⟨#[]⟩) (.slice none 0 0) (.slice none 0 0)) w.heap.size (ofT (.mk 3 n u ⟨#[]⟩ keys l)) v' (Fresh w (store6 wr (pr + 1) (.int .i64 3) (.int .i64 n) (.int .u64 0) (.string ⟨#[]⟩) (.slice none 0 0) (.slice none 0 0))) ∧ Grew w (store6 wr (pr + 1) (.int .i64 3) (.int .i64 n) (.int .u64 0) (.string ⟨#[]⟩) (.slice none 0 0) (.slice none 0 0))) := by rw [HT.out]; exact own_ret HPR.out HZ2.out (HLEAF.out 3 (n) 0 (⟨#[]⟩) ⟨by unfold i64ok; omega, HBN.out, by unfold u64ok; omega, by unfold lenok; decide⟩) HGA.out _ _ _ _ _ _
          go_wp2_with fail
          refine bodyPost_ret (v := .agg #[.int .i64 3, .int .i64 n, .int .u64 0, .string ⟨#[]⟩, .slice none 0 0, .slice none 0 0]) (by simp [results, Try.results31, go_sem, z0, z1, z2, z3, z4, z5]) rfl ?_
          exact HFN.out
        · by_cases hlt : u < 9223372036854775808
          · have hl0 : l = [] := HF.out.2.2.2.2 (by omega)
            have hk0 : keys = [] := HF.out.2.2.2.1 (by decide)
            have hn0 : n = 0 := HF.out.1 (by decide)
            have hs0 : s = ⟨#[]⟩ := HF.out.2.2.1 (by decide)
            have HT : Hid (ofT (.mk 4 n u s keys l) = .mk 3 u 0 ⟨#[]⟩ [] []) := by show _ = _; simp [ofT, formN, hlt]
            clear hl0 hk0 hn0 hs0
            have hwu : IntKind.i64.wrap u = u := by rw [IntKind.wrap_i64]; omega
            have HFN : Hid (∃ v', Ending.returned (.agg #[.int .i64 3, .int .i64 u, .int .u64 0, .string ⟨#[]⟩, .slice none 0 0, .slice none 0 0]) = .returned v' ∧ OwnT (store6 wr (pr + 1) (.int .i64 3) (.int .i64 u) (.int .u64 0) (.string ⟨#[]⟩) (.slice none 0 0) (.slice none 0 0)) w.heap.size (ofT (.mk 4 n u s keys l)) v' (Fresh w (store6 wr (pr + 1) (.int .i64 3) (.int .i64 u) (.int .u64 0) (.string ⟨#[]⟩) (.slice none 0 0) (.slice none 0 0))) ∧ Grew w (store6 wr (pr + 1) (.int .i64 3) (.int .i64 u) (.int .u64 0) (.string ⟨#[]⟩) (.slice none 0 0) (.slice none 0 0))) := by rw [HT.out]; exact own_ret HPR.out HZ2.out (HLEAF.out 3 u 0 ⟨#[]⟩ ⟨by unfold i64ok; omega, by unfold i64ok; omega, by unfold u64ok; omega, by unfold lenok; decide⟩) HGA.out _ _ _ _ _ _
            go_wp2_with fail
            refine bodyPost_ret (v := .agg #[.int .i64 3, .int .i64 u, .int .u64 0, .string ⟨#[]⟩, .slice none 0 0, .slice none 0 0]) (by simp [results, Try.results31, go_sem, z0, z1, z2, z3, z4, z5]) rfl ?_
            exact HFN.out
          · have hl0 : l = [] := HF.out.2.2.2.2 (by omega)
            have hk0 : keys = [] := HF.out.2.2.2.1 (by decide)
            have hn0 : n = 0 := HF.out.1 (by decide)
            have hs0 : s = ⟨#[]⟩ := HF.out.2.2.1 (by decide)
            have HT : Hid (ofT (.mk 4 n u s keys l) = .mk 4 0 u ⟨#[]⟩ [] []) := by show _ = _; simp [ofT, formN, hlt]
            clear hl0 hk0 hn0 hs0
            have HFN : Hid (∃ v', Ending.returned (.agg #[.int .i64 4, .int .i64 0, .int .u64 u, .string ⟨#[]⟩, .slice none 0 0, .slice none 0 0]) = .returned v' ∧ OwnT (store6 wr (pr + 1) (.int .i64 4) (.int .i64 0) (.int .u64 u) (.string ⟨#[]⟩) (.slice none 0 0) (.slice none 0 0)) w.heap.size (ofT (.mk 4 n u s keys l)) v' (Fresh w (store6 wr (pr + 1) (.int .i64 4) (.int .i64 0) (.int .u64 u) (.string ⟨#[]⟩) (.slice none 0 0) (.slice none 0 0))) ∧ Grew w (store6 wr (pr + 1) (.int .i64 4) (.int .i64 0) (.int .u64 u) (.string ⟨#[]⟩) (.slice none 0 0) (.slice none 0 0))) := by rw [HT.out]; exact own_ret HPR.out HZ2.out (HLEAF.out 4 0 u ⟨#[]⟩ ⟨by unfold i64ok; omega, by unfold i64ok; omega, HBU.out, by unfold lenok; decide⟩) HGA.out _ _ _ _ _ _
            go_wp2_with fail
            refine bodyPost_ret (v := .agg #[.int .i64 4, .int .i64 0, .int .u64 u, .string ⟨#[]⟩, .slice none 0 0, .slice none 0 0]) (by simp [results, Try.results31, go_sem, z0, z1, z2, z3, z4, z5]) rfl ?_
            exact HFN.out
        · have hl0 : l = [] := HF.out.2.2.2.2 (by omega)
          have hk0 : keys = [] := HF.out.2.2.2.1 (by decide)
          have hn0 : n = 0 := HF.out.1 (by decide)
          have hu00 : u = 0 := HF.out.2.1 (by decide)
          subst hn0
          have HT : Hid (ofT (.mk 5 0 u s keys l) = .mk 6 0 0 s [] []) := by show _ = _; rw [hl0, hk0, hu00]; rfl
          clear hl0 hk0 hu00
          have HFN : Hid (∃ v', Ending.returned (.agg #[.int .i64 6, .int .i64 0, .int .u64 0, .string s, .slice none 0 0, .slice none 0 0]) = .returned v' ∧ OwnT (store6 wr (pr + 1) (.int .i64 6) (.int .i64 0) (.int .u64 0) (.string s) (.slice none 0 0) (.slice none 0 0)) w.heap.size (ofT (.mk 5 0 u s keys l)) v' (Fresh w (store6 wr (pr + 1) (.int .i64 6) (.int .i64 0) (.int .u64 0) (.string s) (.slice none 0 0) (.slice none 0 0))) ∧ Grew w (store6 wr (pr + 1) (.int .i64 6) (.int .i64 0) (.int .u64 0) (.string s) (.slice none 0 0) (.slice none 0 0))) := by rw [HT.out]; exact own_ret HPR.out HZ2.out (HLEAF.out 6 (0) 0 (s) ⟨by unfold i64ok; omega, by unfold i64ok; omega, by unfold u64ok; omega, HBS.out⟩) HGA.out _ _ _ _ _ _
          go_wp2_with fail
          refine bodyPost_ret (v := .agg #[.int .i64 6, .int .i64 0, .int .u64 0, .string s, .slice none 0 0, .slice none 0 0]) (by simp [results, Try.results31, go_sem, z0, z1, z2, z3, z4, z5]) rfl ?_
          exact HFN.out
        · have hl0 : l = [] := HF.out.2.2.2.2 (by omega)
          have hk0 : keys = [] := HF.out.2.2.2.1 (by decide)
          have hn0 : n = 0 := HF.out.1 (by decide)
          have hu00 : u = 0 := HF.out.2.1 (by decide)
          subst hn0
          go_wp2_with fail
          refine (rleaf_any 6 _).mono ?_
          rw [show leafB 6 = true by decide]
          rintro r w9 ⟨rfl, hw9⟩
          obtain rfl : wr = w9 := hw9.symm
          have HT : Hid (ofT (.mk 6 0 u s keys l) = .mk 6 0 0 s [] []) := by show _ = _; rw [hl0, hk0, hu00]; rfl
          clear hl0 hk0 hu00
          have HFN : Hid (∃ v', Ending.returned (.agg #[.int .i64 6, .int .i64 0, .int .u64 0, .string s, .slice none 0 0, .slice none 0 0]) = .returned v' ∧ OwnT (store6 wr (pr + 1) (.int .i64 6) (.int .i64 0) (.int .u64 0) (.string s) (.slice none 0 0) (.slice none 0 0)) w.heap.size (ofT (.mk 6 0 u s keys l)) v' (Fresh w (store6 wr (pr + 1) (.int .i64 6) (.int .i64 0) (.int .u64 0) (.string s) (.slice none 0 0) (.slice none 0 0))) ∧ Grew w (store6 wr (pr + 1) (.int .i64 6) (.int .i64 0) (.int .u64 0) (.string s) (.slice none 0 0) (.slice none 0 0))) := by rw [HT.out]; exact own_ret HPR.out HZ2.out (HLEAF.out 6 (0) 0 (s) ⟨by unfold i64ok; omega, by unfold i64ok; omega, by unfold u64ok; omega, HBS.out⟩) HGA.out _ _ _ _ _ _
          go_wp2_with fail
          refine bodyPost_ret (v := .agg #[.int .i64 6, .int .i64 0, .int .u64 0, .string s, .slice none 0 0, .slice none 0 0]) (by simp [results, Try.results31, go_sem, z0, z1, z2, z3, z4, z5]) rfl ?_
          exact HFN.out
        · have hl0 : l = [] := HF.out.2.2.2.2 (by omega)
          have hk0 : keys = [] := HF.out.2.2.2.1 (by decide)
          have hn0 : n = 0 := HF.out.1 (by decide)
          have hu00 : u = 0 := HF.out.2.1 (by decide)
          subst hn0
          go_wp2_with fail
          refine (rleaf_any 7 _).mono ?_
          rw [show leafB 7 = true by decide]
          rintro r w9 ⟨rfl, hw9⟩
          obtain rfl : wr = w9 := hw9.symm
          have HT : Hid (ofT (.mk 7 0 u s keys l) = .mk 7 0 0 s [] []) := by show _ = _; rw [hl0, hk0, hu00]; rfl
          clear hl0 hk0 hu00
          have HFN : Hid (∃ v', Ending.returned (.agg #[.int .i64 7, .int .i64 0, .int .u64 0, .string s, .slice none 0 0, .slice none 0 0]) = .returned v' ∧ OwnT (store6 wr (pr + 1) (.int .i64 7) (.int .i64 0) (.int .u64 0) (.string s) (.slice none 0 0) (.slice none 0 0)) w.heap.size (ofT (.mk 7 0 u s keys l)) v' (Fresh w (store6 wr (pr + 1) (.int .i64 7) (.int .i64 0) (.int .u64 0) (.string s) (.slice none 0 0) (.slice none 0 0))) ∧ Grew w (store6 wr (pr + 1) (.int .i64 7) (.int .i64 0) (.int .u64 0) (.string s) (.slice none 0 0) (.slice none 0 0))) := by rw [HT.out]; exact own_ret HPR.out HZ2.out (HLEAF.out 7 (0) 0 (s) ⟨by unfold i64ok; omega, by unfold i64ok; omega, by unfold u64ok; omega, HBS.out⟩) HGA.out _ _ _ _ _ _
          go_wp2_with fail
          refine bodyPost_ret (v := .agg #[.int .i64 7, .int .i64 0, .int .u64 0, .string s, .slice none 0 0, .slice none 0 0]) (by simp [results, Try.results31, go_sem, z0, z1, z2, z3, z4, z5]) rfl ?_
          exact HFN.out
        · have hl0 : l = [] := HF.out.2.2.2.2 (by omega)
          have hk0 : keys = [] := HF.out.2.2.2.1 (by decide)
          have hu00 : u = 0 := HF.out.2.1 (by decide)
          have hs0 : s = ⟨#[]⟩ := HF.out.2.2.1 (by decide)
          subst hs0
          have HT : Hid (ofT (.mk 8 n u ⟨#[]⟩ keys l) = .mk 3 n 0 ⟨#[]⟩ [] []) := by show _ = _; rw [hl0, hk0, hu00]; rfl
          clear hl0 hk0 hu00
          have HFN : Hid (∃ v', Ending.returned (.agg #[.int .i64 3, .int .i64 n, .int .u64 0, .string ⟨#[]⟩, .slice none 0 0, .slice none 0 0]) = .returned v' ∧ OwnT (store6 wr (pr + 1) (.int .i64 3) (.int .i64 n) (.int .u64 0) (.string ⟨#[]⟩) (.slice none 0 0) (.slice none 0 0)) w.heap.size (ofT (.mk 8 n u ⟨#[]⟩ keys l)) v' (Fresh w (store6 wr (pr + 1) (.int .i64 3) (.int .i64 n) (.int .u64 0) (.string ⟨#[]⟩) (.slice none 0 0) (.slice none 0 0))) ∧ Grew w (store6 wr (pr + 1) (.int .i64 3) (.int .i64 n) (.int .u64 0) (.string ⟨#[]⟩) (.slice none 0 0) (.slice none 0 0))) := by rw [HT.out]; exact own_ret HPR.out HZ2.out (HLEAF.out 3 (n) 0 (⟨#[]⟩) ⟨by unfold i64ok; omega, HBN.out, by unfold u64ok; omega, by unfold lenok; decide⟩) HGA.out _ _ _ _ _ _
          go_wp2_with fail
          refine bodyPost_ret (v := .agg #[.int .i64 3, .int .i64 n, .int .u64 0, .string ⟨#[]⟩, .slice none 0 0, .slice none 0 0]) (by simp [results, Try.results31, go_sem, z0, z1, z2, z3, z4, z5]) rfl ?_
          exact HFN.out
        · by_cases hlt : u < 9223372036854775808
          · have hl0 : l = [] := HF.out.2.2.2.2 (by omega)
            have hk0 : keys = [] := HF.out.2.2.2.1 (by decide)
            have hn0 : n = 0 := HF.out.1 (by decide)
            have hs0 : s = ⟨#[]⟩ := HF.out.2.2.1 (by decide)
            have HT : Hid (ofT (.mk 9 n u s keys l) = .mk 3 u 0 ⟨#[]⟩ [] []) := by show _ = _; simp [ofT, formN, hlt]
            clear hl0 hk0 hn0 hs0
            have hwu : IntKind.i64.wrap u = u := by rw [IntKind.wrap_i64]; omega
            have HFN : Hid (∃ v', Ending.returned (.agg #[.int .i64 3, .int .i64 u, .int .u64 0, .string ⟨#[]⟩, .slice none 0 0, .slice none 0 0]) = .returned v' ∧ OwnT (store6 wr (pr + 1) (.int .i64 3) (.int .i64 u) (.int .u64 0) (.string ⟨#[]⟩) (.slice none 0 0) (.slice none 0 0)) w.heap.size (ofT (.mk 9 n u s keys l)) v' (Fresh w (store6 wr (pr + 1) (.int .i64 3) (.int .i64 u) (.int .u64 0) (.string ⟨#[]⟩) (.slice none 0 0) (.slice none 0 0))) ∧ Grew w (store6 wr (pr + 1) (.int .i64 3) (.int .i64 u) (.int .u64 0) (.string ⟨#[]⟩) (.slice none 0 0) (.slice none 0 0))) := by rw [HT.out]; exact own_ret HPR.out HZ2.out (HLEAF.out 3 u 0 ⟨#[]⟩ ⟨by unfold i64ok; omega, by unfold i64ok; omega, by unfold u64ok; omega, by unfold lenok; decide⟩) HGA.out _ _ _ _ _ _
            go_wp2_with fail
            refine bodyPost_ret (v := .agg #[.int .i64 3, .int .i64 u, .int .u64 0, .string ⟨#[]⟩, .slice none 0 0, .slice none 0 0]) (by simp [results, Try.results31, go_sem, z0, z1, z2, z3, z4, z5]) rfl ?_
            exact HFN.out
          · have hl0 : l = [] := HF.out.2.2.2.2 (by omega)
            have hk0 : keys = [] := HF.out.2.2.2.1 (by decide)
            have hn0 : n = 0 := HF.out.1 (by decide)
            have hs0 : s = ⟨#[]⟩ := HF.out.2.2.1 (by decide)
            have HT : Hid (ofT (.mk 9 n u s keys l) = .mk 4 0 u ⟨#[]⟩ [] []) := by show _ = _; simp [ofT, formN, hlt]
            clear hl0 hk0 hn0 hs0
            have HFN : Hid (∃ v', Ending.returned (.agg #[.int .i64 4, .int .i64 0, .int .u64 u, .string ⟨#[]⟩, .slice none 0 0, .slice none 0 0]) = .returned v' ∧ OwnT (store6 wr (pr + 1) (.int .i64 4) (.int .i64 0) (.int .u64 u) (.string ⟨#[]⟩) (.slice none 0 0) (.slice none 0 0)) w.heap.size (ofT (.mk 9 n u s keys l)) v' (Fresh w (store6 wr (pr + 1) (.int .i64 4) (.int .i64 0) (.int .u64 u) (.string ⟨#[]⟩) (.slice none 0 0) (.slice none 0 0))) ∧ Grew w (store6 wr (pr + 1) (.int .i64 4) (.int .i64 0) (.int .u64 u) (.string ⟨#[]⟩) (.slice none 0 0) (.slice none 0 0))) := by rw [HT.out]; exact own_ret HPR.out HZ2.out (HLEAF.out 4 0 u ⟨#[]⟩ ⟨by unfold i64ok; omega, by unfold i64ok; omega, HBU.out, by unfold lenok; decide⟩) HGA.out _ _ _ _ _ _
            go_wp2_with fail
            refine bodyPost_ret (v := .agg #[.int .i64 4, .int .i64 0, .int .u64 u, .string ⟨#[]⟩, .slice none 0 0, .slice none 0 0]) (by simp [results, Try.results31, go_sem, z0, z1, z2, z3, z4, z5]) rfl ?_
            exact HFN.out
        · have hk0 : keys = [] := HF.out.2.2.2.1 (by decide)
          have hn0 : n = 0 := HF.out.1 (by decide)
          have hu00 : u = 0 := HF.out.2.1 (by decide)
          have hs0 : s = ⟨#[]⟩ := HF.out.2.2.1 (by decide)
          have HT : Hid (ofT (.mk 10 n u s keys l) = .mk 10 0 0 ⟨#[]⟩ [] (ofL l)) := by show _ = _; rw [hk0, hn0, hu00, hs0]; simp [ofT, formN]
          clear hk0 hn0 hu00 hs0
          go_wp2_with fail
          refine (rleaf_any 10 _).mono ?_
          rw [show leafB 10 = false by decide]
          rintro r w9 ⟨rfl, hw9⟩
          obtain rfl : wr = w9 := hw9.symm
          have HFN : Hid (∃ v', Ending.returned (.agg #[.int .i64 10, .int .i64 0, .int .u64 0, .string ⟨#[]⟩, .slice none 0 0, .slice ga l.length gc]) = .returned v' ∧ OwnT (store6 wr (pr + 1) (.int .i64 10) (.int .i64 0) (.int .u64 0) (.string ⟨#[]⟩) (.slice none 0 0) (.slice ga l.length gc)) w.heap.size (ofT (.mk 10 n u s keys l)) v' (Fresh w (store6 wr (pr + 1) (.int .i64 10) (.int .i64 0) (.int .u64 0) (.string ⟨#[]⟩) (.slice none 0 0) (.slice ga l.length gc))) ∧ Grew w (store6 wr (pr + 1) (.int .i64 10) (.int .i64 0) (.int .u64 0) (.string ⟨#[]⟩) (.slice none 0 0) (.slice ga l.length gc))) := by rw [HT.out]; exact own_ret HPR.out HZ2.out (HTREE.out 10 0 0 ⟨#[]⟩ ⟨by unfold i64ok; omega, by unfold i64ok; omega, by unfold u64ok; omega, by unfold lenok; decide⟩) HGA.out _ _ _ _ _ _
          go_wp2_with fail
          refine bodyPost_ret (v := .agg #[.int .i64 10, .int .i64 0, .int .u64 0, .string ⟨#[]⟩, .slice none 0 0, .slice ga l.length gc]) (by simp [results, Try.results31, go_sem, z0, z1, z2, z3, z4, z5]) rfl ?_
          exact HFN.out
        · have hk0 : keys = [] := HF.out.2.2.2.1 (by decide)
          have hn0 : n = 0 := HF.out.1 (by decide)
          have hu00 : u = 0 := HF.out.2.1 (by decide)
          have hs0 : s = ⟨#[]⟩ := HF.out.2.2.1 (by decide)
          have HT : Hid (ofT (.mk 11 n u s keys l) = .mk 10 0 0 ⟨#[]⟩ [] (ofL l)) := by show _ = _; rw [hk0, hn0, hu00, hs0]; simp [ofT, formN]
          clear hk0 hn0 hu00 hs0
          go_wp2_with fail
          refine (rleaf_any 11 _).mono ?_
          rw [show leafB 11 = false by decide]
          rintro r w9 ⟨rfl, hw9⟩
          obtain rfl : wr = w9 := hw9.symm
          have HFN : Hid (∃ v', Ending.returned (.agg #[.int .i64 10, .int .i64 0, .int .u64 0, .string ⟨#[]⟩, .slice none 0 0, .slice ga l.length gc]) = .returned v' ∧ OwnT (store6 wr (pr + 1) (.int .i64 10) (.int .i64 0) (.int .u64 0) (.string ⟨#[]⟩) (.slice none 0 0) (.slice ga l.length gc)) w.heap.size (ofT (.mk 11 n u s keys l)) v' (Fresh w (store6 wr (pr + 1) (.int .i64 10) (.int .i64 0) (.int .u64 0) (.string ⟨#[]⟩) (.slice none 0 0) (.slice ga l.length gc))) ∧ Grew w (store6 wr (pr + 1) (.int .i64 10) (.int .i64 0) (.int .u64 0) (.string ⟨#[]⟩) (.slice none 0 0) (.slice ga l.length gc))) := by rw [HT.out]; exact own_ret HPR.out HZ2.out (HTREE.out 10 0 0 ⟨#[]⟩ ⟨by unfold i64ok; omega, by unfold i64ok; omega, by unfold u64ok; omega, by unfold lenok; decide⟩) HGA.out _ _ _ _ _ _
          go_wp2_with fail
          refine bodyPost_ret (v := .agg #[.int .i64 10, .int .i64 0, .int .u64 0, .string ⟨#[]⟩, .slice none 0 0, .slice ga l.length gc]) (by simp [results, Try.results31, go_sem, z0, z1, z2, z3, z4, z5]) rfl ?_
          exact HFN.out
        · have hk0 : keys = [] := HF.out.2.2.2.1 (by decide)
          have hn0 : n = 0 := HF.out.1 (by decide)
          have hu00 : u = 0 := HF.out.2.1 (by decide)
          have hs0 : s = ⟨#[]⟩ := HF.out.2.2.1 (by decide)
          have HT : Hid (ofT (.mk 12 n u s keys l) = .mk 10 0 0 ⟨#[]⟩ [] (ofL l)) := by show _ = _; rw [hk0, hn0, hu00, hs0]; simp [ofT, formN]
          clear hk0 hn0 hu00 hs0
          go_wp2_with fail
          refine (rleaf_any 12 _).mono ?_
          rw [show leafB 12 = false by decide]
          rintro r w9 ⟨rfl, hw9⟩
          obtain rfl : wr = w9 := hw9.symm
          have HFN : Hid (∃ v', Ending.returned (.agg #[.int .i64 10, .int .i64 0, .int .u64 0, .string ⟨#[]⟩, .slice none 0 0, .slice ga l.length gc]) = .returned v' ∧ OwnT (store6 wr (pr + 1) (.int .i64 10) (.int .i64 0) (.int .u64 0) (.string ⟨#[]⟩) (.slice none 0 0) (.slice ga l.length gc)) w.heap.size (ofT (.mk 12 n u s keys l)) v' (Fresh w (store6 wr (pr + 1) (.int .i64 10) (.int .i64 0) (.int .u64 0) (.string ⟨#[]⟩) (.slice none 0 0) (.slice ga l.length gc))) ∧ Grew w (store6 wr (pr + 1) (.int .i64 10) (.int .i64 0) (.int .u64 0) (.string ⟨#[]⟩) (.slice none 0 0) (.slice ga l.length gc))) := by rw [HT.out]; exact own_ret HPR.out HZ2.out (HTREE.out 10 0 0 ⟨#[]⟩ ⟨by unfold i64ok; omega, by unfold i64ok; omega, by unfold u64ok; omega, by unfold lenok; decide⟩) HGA.out _ _ _ _ _ _
          go_wp2_with fail
          refine bodyPost_ret (v := .agg #[.int .i64 10, .int .i64 0, .int .u64 0, .string ⟨#[]⟩, .slice none 0 0, .slice ga l.length gc]) (by simp [results, Try.results31, go_sem, z0, z1, z2, z3, z4, z5]) rfl ?_
          exact HFN.out
        · have hk0 : keys = [] := HF.out.2.2.2.1 (by decide)
          have hn0 : n = 0 := HF.out.1 (by decide)
          have hu00 : u = 0 := HF.out.2.1 (by decide)
          have hs0 : s = ⟨#[]⟩ := HF.out.2.2.1 (by decide)
          have HT : Hid (ofT (.mk 13 n u s keys l) = .mk 10 0 0 ⟨#[]⟩ [] (ofL l)) := by show _ = _; rw [hk0, hn0, hu00, hs0]; simp [ofT, formN]
          clear hk0 hn0 hu00 hs0
          go_wp2_with fail
          refine (rleaf_any 13 _).mono ?_
          rw [show leafB 13 = false by decide]
          rintro r w9 ⟨rfl, hw9⟩
          obtain rfl : wr = w9 := hw9.symm
          have HFN : Hid (∃ v', Ending.returned (.agg #[.int .i64 10, .int .i64 0, .int .u64 0, .string ⟨#[]⟩, .slice none 0 0, .slice ga l.length gc]) = .returned v' ∧ OwnT (store6 wr (pr + 1) (.int .i64 10) (.int .i64 0) (.int .u64 0) (.string ⟨#[]⟩) (.slice none 0 0) (.slice ga l.length gc)) w.heap.size (ofT (.mk 13 n u s keys l)) v' (Fresh w (store6 wr (pr + 1) (.int .i64 10) (.int .i64 0) (.int .u64 0) (.string ⟨#[]⟩) (.slice none 0 0) (.slice ga l.length gc))) ∧ Grew w (store6 wr (pr + 1) (.int .i64 10) (.int .i64 0) (.int .u64 0) (.string ⟨#[]⟩) (.slice none 0 0) (.slice ga l.length gc))) := by rw [HT.out]; exact own_ret HPR.out HZ2.out (HTREE.out 10 0 0 ⟨#[]⟩ ⟨by unfold i64ok; omega, by unfold i64ok; omega, by unfold u64ok; omega, by unfold lenok; decide⟩) HGA.out _ _ _ _ _ _
          go_wp2_with fail
          refine bodyPost_ret (v := .agg #[.int .i64 10, .int .i64 0, .int .u64 0, .string ⟨#[]⟩, .slice none 0 0, .slice ga l.length gc]) (by simp [results, Try.results31, go_sem, z0, z1, z2, z3, z4, z5]) rfl ?_
          exact HFN.out
        · have hk0 : keys = [] := HF.out.2.2.2.1 (by decide)
          have hn0 : n = 0 := HF.out.1 (by decide)
          have hu00 : u = 0 := HF.out.2.1 (by decide)
          have hs0 : s = ⟨#[]⟩ := HF.out.2.2.1 (by decide)
          have HT : Hid (ofT (.mk 14 n u s keys l) = .mk 10 0 0 ⟨#[]⟩ [] (ofL l)) := by show _ = _; rw [hk0, hn0, hu00, hs0]; simp [ofT, formN]
          clear hk0 hn0 hu00 hs0
          go_wp2_with fail
          refine (rleaf_any 14 _).mono ?_
          rw [show leafB 14 = false by decide]
          rintro r w9 ⟨rfl, hw9⟩
          obtain rfl : wr = w9 := hw9.symm
          have HFN : Hid (∃ v', Ending.returned (.agg #[.int .i64 10, .int .i64 0, .int .u64 0, .string ⟨#[]⟩, .slice none 0 0, .slice ga l.length gc]) = .returned v' ∧ OwnT (store6 wr (pr + 1) (.int .i64 10) (.int .i64 0) (.int .u64 0) (.string ⟨#[]⟩) (.slice none 0 0) (.slice ga l.length gc)) w.heap.size (ofT (.mk 14 n u s keys l)) v' (Fresh w (store6 wr (pr + 1) (.int .i64 10) (.int .i64 0) (.int .u64 0) (.string ⟨#[]⟩) (.slice none 0 0) (.slice ga l.length gc))) ∧ Grew w (store6 wr (pr + 1) (.int .i64 10) (.int .i64 0) (.int .u64 0) (.string ⟨#[]⟩) (.slice none 0 0) (.slice ga l.length gc))) := by rw [HT.out]; exact own_ret HPR.out HZ2.out (HTREE.out 10 0 0 ⟨#[]⟩ ⟨by unfold i64ok; omega, by unfold i64ok; omega, by unfold u64ok; omega, by unfold lenok; decide⟩) HGA.out _ _ _ _ _ _
          go_wp2_with fail
          refine bodyPost_ret (v := .agg #[.int .i64 10, .int .i64 0, .int .u64 0, .string ⟨#[]⟩, .slice none 0 0, .slice ga l.length gc]) (by simp [results, Try.results31, go_sem, z0, z1, z2, z3, z4, z5]) rfl ?_
          exact HFN.out
        · have hk0 : keys = [] := HF.out.2.2.2.1 (by decide)
          have hn0 : n = 0 := HF.out.1 (by decide)
          have hu00 : u = 0 := HF.out.2.1 (by decide)
          have hs0 : s = ⟨#[]⟩ := HF.out.2.2.1 (by decide)
          have HT : Hid (ofT (.mk 15 n u s keys l) = .mk 10 0 0 ⟨#[]⟩ [] (ofL l)) := by show _ = _; rw [hk0, hn0, hu00, hs0]; simp [ofT, formN]
          clear hk0 hn0 hu00 hs0
          go_wp2_with fail
          refine (rleaf_any 15 _).mono ?_
          rw [show leafB 15 = false by decide]
          rintro r w9 ⟨rfl, hw9⟩
          obtain rfl : wr = w9 := hw9.symm
          have HFN : Hid (∃ v', Ending.returned (.agg #[.int .i64 10, .int .i64 0, .int .u64 0, .string ⟨#[]⟩, .slice none 0 0, .slice ga l.length gc]) = .returned v' ∧ OwnT (store6 wr (pr + 1) (.int .i64 10) (.int .i64 0) (.int .u64 0) (.string ⟨#[]⟩) (.slice none 0 0) (.slice ga l.length gc)) w.heap.size (ofT (.mk 15 n u s keys l)) v' (Fresh w (store6 wr (pr + 1) (.int .i64 10) (.int .i64 0) (.int .u64 0) (.string ⟨#[]⟩) (.slice none 0 0) (.slice ga l.length gc))) ∧ Grew w (store6 wr (pr + 1) (.int .i64 10) (.int .i64 0) (.int .u64 0) (.string ⟨#[]⟩) (.slice none 0 0) (.slice ga l.length gc))) := by rw [HT.out]; exact own_ret HPR.out HZ2.out (HTREE.out 10 0 0 ⟨#[]⟩ ⟨by unfold i64ok; omega, by unfold i64ok; omega, by unfold u64ok; omega, by unfold lenok; decide⟩) HGA.out _ _ _ _ _ _
          go_wp2_with fail
          refine bodyPost_ret (v := .agg #[.int .i64 10, .int .i64 0, .int .u64 0, .string ⟨#[]⟩, .slice none 0 0, .slice ga l.length gc]) (by simp [results, Try.results31, go_sem, z0, z1, z2, z3, z4, z5]) rfl ?_
          exact HFN.out
        · have hk0 : keys = [] := HF.out.2.2.2.1 (by decide)
          have hn0 : n = 0 := HF.out.1 (by decide)
          have hu00 : u = 0 := HF.out.2.1 (by decide)
          have hs0 : s = ⟨#[]⟩ := HF.out.2.2.1 (by decide)
          have HT : Hid (ofT (.mk 16 n u s keys l) = .mk 10 0 0 ⟨#[]⟩ [] (ofL l)) := by show _ = _; rw [hk0, hn0, hu00, hs0]; simp [ofT, formN]
          clear hk0 hn0 hu00 hs0
          go_wp2_with fail
          refine (rleaf_any 16 _).mono ?_
          rw [show leafB 16 = false by decide]
          rintro r w9 ⟨rfl, hw9⟩
          obtain rfl : wr = w9 := hw9.symm
          have HFN : Hid (∃ v', Ending.returned (.agg #[.int .i64 10, .int .i64 0, .int .u64 0, .string ⟨#[]⟩, .slice none 0 0, .slice ga l.length gc]) = .returned v' ∧ OwnT (store6 wr (pr + 1) (.int .i64 10) (.int .i64 0) (.int .u64 0) (.string ⟨#[]⟩) (.slice none 0 0) (.slice ga l.length gc)) w.heap.size (ofT (.mk 16 n u s keys l)) v' (Fresh w (store6 wr (pr + 1) (.int .i64 10) (.int .i64 0) (.int .u64 0) (.string ⟨#[]⟩) (.slice none 0 0) (.slice ga l.length gc))) ∧ Grew w (store6 wr (pr + 1) (.int .i64 10) (.int .i64 0) (.int .u64 0) (.string ⟨#[]⟩) (.slice none 0 0) (.slice ga l.length gc))) := by rw [HT.out]; exact own_ret HPR.out HZ2.out (HTREE.out 10 0 0 ⟨#[]⟩ ⟨by unfold i64ok; omega, by unfold i64ok; omega, by unfold u64ok; omega, by unfold lenok; decide⟩) HGA.out _ _ _ _ _ _
          go_wp2_with fail
          refine bodyPost_ret (v := .agg #[.int .i64 10, .int .i64 0, .int .u64 0, .string ⟨#[]⟩, .slice none 0 0, .slice ga l.length gc]) (by simp [results, Try.results31, go_sem, z0, z1, z2, z3, z4, z5]) rfl ?_
          exact HFN.out
        · have hn0 : n = 0 := HF.out.1 (by decide)
          have hu00 : u = 0 := HF.out.2.1 (by decide)
          have hs0 : s = ⟨#[]⟩ := HF.out.2.2.1 (by decide)
          subst hn0
          subst hu00
          subst hs0
          have HT : Hid (ofT (.mk 17 0 0 ⟨#[]⟩ keys l) = .mk 17 0 0 ⟨#[]⟩ keys (ofL l)) := by show _ = _; simp [ofT, formN]
          go_wp2_with fail
          refine (rleaf_any 17 _).mono ?_
          rw [show leafB 17 = false by decide]
          rintro r w9 ⟨rfl, hw9⟩
          obtain rfl : wr = w9 := hw9.symm
          go_wp2_with fail
          refine (copytexts_any wr _ keys (HKS.out.grew HGA.out) (HKL.out (by trivial))).mono ?_
          rintro r w6 ⟨kv', rfl, hkv, hg6⟩
          obtain ⟨ka, kc, rfl, _, _, _⟩ := rows_form hkv
          have HFIN : Hid (OwnT w6 x1.heap.size (.mk 17 0 0 ⟨#[]⟩ keys (ofL l)) (.agg #[.int .i64 17, .int .i64 0, .int .u64 0, .string ⟨#[]⟩, .slice ka keys.length kc, .slice ga l.length gc]) (Fresh x1 w6)) := own_map HE.out hkv hg6 HKZ.out (Nat.le_refl _)
          have HG6 := Lib.hid (HGA.out.trans hg6)
          replace HROW := Lib.hid (hg6.heap HROW.out)
          clear hkv hg6 z0 z1 z2 z3 z4 z5 q0 q1 q2 q3 q4 q5
          have z0 := row_cellT HROW.out 0 _ rfl
          have z1 := row_cellT HROW.out 1 _ rfl
          have z2 := row_cellT HROW.out 2 _ rfl
          have z3 := row_cellT HROW.out 3 _ rfl
          have z4 := row_cellT HROW.out 4 _ rfl
          have z5 := row_cellT HROW.out 5 _ rfl
          have q0 := row_frozen HROW.out 0
          have q1 := row_frozen HROW.out 1
          have q2 := row_frozen HROW.out 2
          have q3 := row_frozen HROW.out 3
          have q4 := row_frozen HROW.out 4
          have q5 := row_frozen HROW.out 5
          have HFN : Hid (∃ v', Ending.returned (.agg #[.int .i64 17, .int .i64 0, .int .u64 0, .string ⟨#[]⟩, .slice ka keys.length kc, .slice ga l.length gc]) = .returned v' ∧ OwnT (store6 w6 (pr + 1) (.int .i64 17) (.int .i64 0) (.int .u64 0) (.string ⟨#[]⟩) (.slice ka keys.length kc) (.slice ga l.length gc)) w.heap.size (ofT (.mk 17 0 0 ⟨#[]⟩ keys l)) v' (Fresh w (store6 w6 (pr + 1) (.int .i64 17) (.int .i64 0) (.int .u64 0) (.string ⟨#[]⟩) (.slice ka keys.length kc) (.slice ga l.length gc))) ∧ Grew w (store6 w6 (pr + 1) (.int .i64 17) (.int .i64 0) (.int .u64 0) (.string ⟨#[]⟩) (.slice ka keys.length kc) (.slice ga l.length gc))) := by rw [HT.out]; exact own_ret HPR.out HZ2.out (HFIN.out) HG6.out _ _ _ _ _ _
          go_wp2_with fail
          refine bodyPost_ret (v := .agg #[.int .i64 17, .int .i64 0, .int .u64 0, .string ⟨#[]⟩, .slice ka keys.length kc, .slice ga l.length gc]) (by simp [results, Try.results31, go_sem, z0, z1, z2, z3, z4, z5]) rfl ?_
          exact HFN.out
end Go.Proofs.Ytfbeepkogcmlmaa

/-
  Normal forms, the reference, memory: two rows that grow side by side (keys and children). Conditions: none.
-/
namespace Go.Proofs.Ytfbeepkogcmlmaa
open Go Go.ChangeShapes Go.WideShapes Go.ChangeAt Go.RowKit Go.Joins Go.Deep
set_option linter.unusedVariables false
set_option linter.unusedSimpArgs false

/-- Keys and children, collected behind W in rows of one's own. -/
def TwoR (W w : World) (kv lv : Value) (ks : List ByteArray) (ts : List Tr) : Prop :=
  Grew W w ∧ OwnS w W.heap.size kv ks ∧ (∀ g, kv.ownBlock = some g → lv.ownBlock ≠ some g) ∧ ∃ vs S, OwnN w W.heap.size lv vs ∧ KidsO w W.heap.size ts vs S ∧ ∀ g, S g → W.heap.size ≤ g ∧ g < w.heap.size ∧ lv.ownBlock ≠ some g ∧ kv.ownBlock ≠ some g
section
variable {W w w1 w3 w4 w6 : World} {kv kv' lv lv' xv : Value} {ks : List ByteArray} {ts : List Tr}
theorem TwoR.start (W : World) : TwoR W W (.slice none 0 0) (.slice none 0 0) [] [] :=
  ⟨Grew.refl W, OwnS.nil _ _, fun g h => (by cases h), [], fun _ => False, OwnN.nil _ _, rfl, fun _ h => h.elim⟩
theorem OwnS.grew' {B : Nat} (h : OwnS w B kv ks) (hg : Grew w w1) : OwnS w1 B kv ks := Moved.owns (Moved.of_grew (S := fun _ => False) hg) h (fun _ _ h => h)
theorem TwoR.grew (h : TwoR W w kv lv ks ts) (hg : Grew w w1) : TwoR W w1 kv lv ks ts := by
  obtain ⟨h0, h1, h2, vs, S, h3, h4, h5⟩ := h
  have := hg.size
  exact ⟨h0.trans hg, h1.grew' hg, h2, vs, S, h3.grew hg, h4.grew hg, fun g hS => ⟨(h5 g hS).1, by have := (h5 g hS).2.1; omega, (h5 g hS).2.2⟩⟩
/-- A key is appended. -/
theorem TwoR.key {q : ByteArray} (h : TwoR W w kv lv ks ts) (hga : Grew w w1) (hown : OwnS w3 W.heap.size kv' (ks ++ [q])) (hgr : w1.grownBy w3 kv.ownBlock) (hn : Next w1 kv.ownBlock kv'.ownBlock) : TwoR W w3 kv' lv (ks ++ [q]) ts := by
  obtain ⟨h0, h1, h2, vs, S, h3, h4, h5⟩ := h
  have hm : Moved (fun k => some k = kv.ownBlock) w1 w3 := Moved.of_grown hgr
  have hs1 := hga.size
  have hs2 := hm.size
  have hlt : ∀ g, lv.ownBlock = some g → W.heap.size ≤ g ∧ g < w.heap.size := fun g hg => World.ownsRow.lt h3.1 g hg
  refine ⟨Moved.fresh (h0.trans hga) hm (fun g e => (World.ownsRow.lt h1 g e.symm).1), hown, fun g hg hl => ?_, vs, S, ⟨Moved.owns hm (h3.grew hga).1 (fun g hg e => h2 g e.symm hg), h3.2⟩, (h4.grew hga).kept hm (fun g hS e => (h5 g hS).2.2.2 e.symm), fun g hS => ⟨(h5 g hS).1, by have := (h5 g hS).2.1; omega, (h5 g hS).2.2.1, fun e => ?_⟩⟩
  · rcases hn g hg with e | e
    · exact h2 g e hl
    · have := (hlt g hl).2; omega
  · rcases hn g e with e | e
    · exact (h5 g hS).2.2.2 e
    · have := (h5 g hS).2.1; omega
/-- A tree out of what was collected. -/
theorem TwoR.tree {w0 : World} {k n u : Int} {s : ByteArray} (h : TwoR W w kv lv ks ts) (hb : i64ok k ∧ i64ok n ∧ u64ok u ∧ lenok s.size ∧ ∀ x ∈ ks, lenok x.size) (h00 : w0.heap.size ≤ W.heap.size) :
    OwnT w w0.heap.size (.mk k n u s ks ts) (.agg #[.int .i64 k, .int .i64 n, .int .u64 u, .string s, kv, lv]) (Fresh w0 w) := by
  obtain ⟨h0, h1, h2, vs, S, h3, h4, h5⟩ := h
  have hkt : ∀ g, kv.ownBlock = some g → W.heap.size ≤ g ∧ g < w.heap.size := fun g hg => World.ownsRow.lt h1 g hg
  have hlt : ∀ g, lv.ownBlock = some g → W.heap.size ≤ g ∧ g < w.heap.size := fun g hg => World.ownsRow.lt h3.1 g hg
  simp only [OwnT]
  exact ⟨hb, kv, lv, vs, S, rfl, rows_base h1 h00, ⟨rows_base h3.1 h00, h3.2⟩, fun g hg => ⟨⟨Nat.le_trans h00 (hkt g hg).1, (hkt g hg).2⟩, fun hS => (h5 g hS).2.2.2 hg⟩, fun g hg => ⟨⟨Nat.le_trans h00 (hlt g hg).1, (hlt g hg).2⟩, fun hS => (h5 g hS).2.2.1 hg⟩, h2, fun g hS => ⟨Nat.le_trans h00 (h5 g hS).1, (h5 g hS).2.1⟩, h4.base h00⟩
end
end Go.Proofs.Ytfbeepkogcmlmaa

/-
  Keys: the examples of the chapter hold. Conditions: none.
-/
namespace Go.Proofs.Ytfbeepkogcmlmaa
open Go Go.ChangeShapes Go.WideShapes Go.ChangeAt Go.RowKit Go.Joins Go.Deep
set_option linter.unusedVariables false
set_option linter.unusedSimpArgs false

theorem lenoks (l : List ByteArray) (h : (l.all fun s => decide (s.size ≤ 9223372036854775807)) = true) : ∀ s ∈ l, lenok s.size := by
  intro s hs
  simpa [lenok] using List.all_eq_true.1 h s hs
end Go.Proofs.Ytfbeepkogcmlmaa

/-
  How the laws' arguments read: strings, slices of strings; few. Conditions: the argument can be read as data.
-/
namespace Go.Proofs.Ytfbeepkogcmlmaa
open Go Go.ChangeShapes Go.WideShapes Go.ChangeAt Go.RowKit Go.Joins Go.Deep
open Go.ChangeMaps (open_string shut_string)
set_option linter.unusedVariables false
set_option linter.unusedSimpArgs false

end Go.Proofs.Ytfbeepkogcmlmaa

/-
  Keys: 'risen', the keys in the order that Order gives. Conditions: the list can be read and has at most 4096 keys.
-/
namespace Go.Proofs.Ytfbeepkogcmlmaa
open Go Go.ChangeShapes Go.WideShapes Go.ChangeAt Go.RowKit Go.Joins Go.Deep
set_option linter.unusedVariables false
set_option linter.unusedSimpArgs false

end Go.Proofs.Ytfbeepkogcmlmaa

/-
  Plain lemma, no program: as RegionT, but a fact need only stay under the operations that may still come.
-/
namespace Go.Proofs.Ytfbeepkogcmlmaa
set_option linter.unusedSimpArgs false
set_option linter.unusedVariables false
open Go Go.RowKit
section
variable {P : Program} {ops : Array Oper}
theorem wpAny_of_factsD {m : Nat} {I : World → Prop} {T : Nat → World → World → Prop} {R : World → World → Prop} {D : Array (List Nat)} {Φ : Nat → (Nat → Value) → Value → World → Prop} {a0 : Act} {w0 : World} {Q : Exit → Act → World → Prop}
    (hRt : ∀ {a b c : World}, R a b → R b c → R a c) (hTR : ∀ i w w', T i w w' → R w w') (hTr : ∀ i w, T i w w) (hTI : ∀ i, i ≠ m → ∀ w w', T i w w' → I w → I w') (hcg : ∀ j y y' v w, (∀ k ∈ D.getD j [], y k = y' k) → Φ j y v w → Φ j y' v w) (hchk : factsOK ops D = true) (hst : ∀ i j, i ≠ j → i ∉ D.getD j [] → ∀ y v w w', T i w w' → Φ j y v w → Φ j y v w') (hrr : ∀ w, R w w)
    (hop : ∀ i o, ops[i]? = some o → opWordT P ops m I T R D Φ a0 w0 i o)
    (hfin : ∀ y w, R w0 w → (∀ j, j < ops.size → Φ j y (y j) w) → Q .normal (fillL y (pairsOf ops) a0) w) :
    ∀ (fuel : Nat) (listed : Array Bool) (a : Act) (w : World) (y : Nat → Value), ((List.range ops.size).filter fun j => !listed.getD j true).length ≤ fuel →
      InvFT ops m I R D Φ a0 w0 listed a w y → wpAny P .any ops Q fuel listed a w := by
  simp only [factsOK, Bool.and_eq_true, List.all_eq_true, List.mem_range] at hchk
  obtain ⟨hkeys, hrows⟩ := hchk
  -- nothing ready: all has been listed
  have hall : ∀ (listed : Array Bool), listed.size = ops.size → Region.ready .any ops listed = [] → ∀ j, j < ops.size → listed.getD j false = true := by
    intro listed hs hnil j
    induction j using Nat.strongRecOn with
    | ind j ih =>
      intro hj
      cases hl : listed.getD j false with
      | true => rfl
      | false =>
        exfalso
        have hmem : j ∈ Region.ready .any ops listed := by
          rw [mem_ready]
          refine ⟨by rw [listed_cases (by omega)]; exact hl, ops[j], Array.getElem?_eq_getElem hj, fun e he hb => ?_⟩
          have hrow := hrows j hj
          rw [Array.getElem?_eq_getElem hj] at hrow
          simp only [Bool.and_eq_true, List.all_eq_true, decide_eq_true_eq] at hrow
          have hlt := hrow.1 e.on (List.mem_map.2 ⟨e, List.mem_filter.2 ⟨by simpa using he, hb⟩, rfl⟩)
          exact ih e.on hlt (by omega)
        rw [hnil] at hmem
        cases hmem
  have hdone : ∀ (listed : Array Bool) (a : Act) (w : World) (y : Nat → Value), InvFT ops m I R D Φ a0 w0 listed a w y → Region.ready .any ops listed = [] → Q .normal a w := by
    intro listed a w y hI hnil
    rw [hI.act]
    exact hfin y w hI.grown (fun j hj => hI.facts j (hall listed hI.size hnil j hj))
  intro fuel
  induction fuel with
  | zero =>
    intro listed a w y hlen hI
    have hnil : Region.ready .any ops listed = [] := by
      have h0 : ((List.range ops.size).filter fun j => !listed.getD j true) = [] := List.length_eq_zero_iff.1 (by omega)
      refine List.eq_nil_iff_forall_not_mem.2 fun j hj => ?_
      have hj' := mem_ready.1 hj
      have : j ∈ ((List.range ops.size).filter fun j => !listed.getD j true) := by
        obtain ⟨hl, o, ho, _⟩ := hj'
        exact List.mem_filter.2 ⟨List.mem_range.2 (Array.getElem?_eq_some_iff.1 ho).1, by simp [hl]⟩
      rw [h0] at this
      cases this
    exact ⟨hnil, hdone listed a w y hI hnil⟩
  | succ fuel ih =>
    intro listed a w y hlen hI
    refine ⟨hdone listed a w y hI, fun i hi => ?_⟩
    obtain ⟨hun, o, ho, hedges⟩ := mem_ready.1 hi
    have hilt : i < ops.size := (Array.getElem?_eq_some_iff.1 ho).1
    have hunf : listed.getD i false = false := by rw [← listed_cases (by rw [hI.size]; exact hilt)]; exact hun
    have hrow := hrows i hilt
    rw [ho] at hrow
    simp only [Bool.and_eq_true, List.all_eq_true, decide_eq_true_eq, List.any_eq_true, Bool.or_eq_true, beq_iff_eq, List.contains_iff_mem] at hrow
    -- what i waits for has been listed
    have hD : ∀ k ∈ D.getD i [], listed.getD k false = true := by
      intro k hk
      obtain ⟨e, he, hek⟩ := hrow.2 k hk
      obtain ⟨ed, hed, rfl⟩ := List.mem_map.1 he
      obtain ⟨hed1, hed2⟩ := List.mem_filter.1 hed
      have hl := hedges ed (by simpa using hed1) hed2
      rcases hek with rfl | hek
      · exact hl
      · exact hI.closed _ hl k hek
    have hcan : fillL y (canonL ops D i) a0 = a := by
      rw [hI.act]
      refine fillL_filter y _ _ a0 hkeys ?_
      rintro ⟨d, j⟩ hq hp
      simp only [Bool.not_eq_false', Bool.or_eq_true, beq_iff_eq] at hp
      have hdst := mem_pairsOf.1 hq
      refine hI.open_ j d ?_ hdst
      rcases hp with rfl | hw
      · exact hun
      · have hjlt : j < listed.size := by
          rw [hI.size]
          rcases Nat.lt_or_ge j ops.size with h' | h'
          · exact h'
          · rw [Array.getElem?_eq_none h'] at hdst; cases hdst
        rw [listed_cases hjlt]
        cases hl : listed.getD j false with
        | false => rfl
        | true =>
          have := hI.closed j hl i (by simpa [waits] using hw)
          rw [hunf] at this
          cases this
    have hw := hop i o ho y w hI.grown (fun e => hI.pre (by rw [← e]; exact hunf)) (fun j hj => hI.facts j (hD j hj)) (fun a' w' => ∃ v, a' = a.put o.dst v ∧ T i w w' ∧ Φ i y v w')
    rw [hcan] at hw
    have hlen' : ((List.range ops.size).filter fun j => !(listed.setIfInBounds i true).getD j true).length ≤ fuel := by
      have : ((List.range ops.size).filter fun j => !(listed.setIfInBounds i true).getD j true).length < ((List.range ops.size).filter fun j => !listed.getD j true).length := by
        refine filter_lt _ i (fun j hj => ?_) (List.mem_range.2 hilt) (by rw [hun]; rfl) ?_
        · by_cases hij : i = j
          · subst hij
            have h2 : i < listed.size := by rw [hI.size]; exact hilt
            simp [h2] at hj
          · rw [getD_set_ne true hij] at hj; exact hj
        · have h2 : i < listed.size := by rw [hI.size]; exact hilt
          simp [h2]
      omega
    have hnext : ∀ v w', T i w w' → Φ i y v w' → wpAny P .any ops Q fuel (listed.setIfInBounds i true) (a.put o.dst v) w' := by
      intro v w' hr0 hφ
      have hr : R w w' := hTR _ _ _ hr0
      have hag : ∀ j, listed.getD j false = true ∨ j = i → ∀ k ∈ D.getD j [], y k = (if k = i then v else y k) := by
        intro j hj k hk
        have hkl : listed.getD k false = true := by
          rcases hj with hj | hj
          · exact hI.closed j hj k hk
          · rw [hj] at hk; exact hD k hk
        have hki : k ≠ i := fun e => by rw [e, hunf] at hkl; cases hkl
        rw [if_neg hki]
      have h2 : i < listed.size := by rw [hI.size]; exact hilt
      refine ih _ _ _ (fun k => if k = i then v else y k) hlen' ⟨by simp [hI.size], ?_, hRt hI.grown hr, fun hm => ?_, ?_, ?_, ?_⟩
      · cases hd : o.dst with
        | none =>
          rw [hI.act]
          show fillL y (pairsOf ops) a0 = _
          refine fillL_congr _ _ _ _ fun p hp => ?_
          have := mem_pairsOf.1 (show (p.1, p.2) ∈ pairsOf ops from hp)
          have hne : p.2 ≠ i := fun he => by rw [he, ho] at this; simp [hd] at this
          simp [hne]
        | some d =>
          rw [hI.act, fillL_set y i v _ a0 d hkeys (mem_pairsOf.2 (by simp [ho, hd]))]
      · by_cases him : i = m
        · subst him; simp [h2] at hm
        · rw [getD_set_ne false him] at hm
          exact hTI i him _ _ hr0 (hI.pre hm)
      · intro j hj
        by_cases hji : j = i
        · subst hji
          rw [if_pos rfl]
          exact hcg j y _ v w' (hag j (.inr rfl)) hφ
        · rw [if_neg hji]
          rw [getD_set_ne false (Ne.symm hji)] at hj
          exact hcg j y _ (y j) w' (hag j (.inl hj)) (hst i j (Ne.symm hji) (fun hm => by have := hI.closed j hj i hm; rw [hunf] at this; cases this) y _ _ _ hr0 (hI.facts j hj))
      · intro j d hj hdst
        have hji : j ≠ i := fun he => by subst he; simp [h2] at hj
        simp only [hji, if_false]
        rw [getD_set_ne true (Ne.symm hji)] at hj
        exact hI.open_ j d hj hdst
      · intro j hj k hk
        by_cases hji : j = i
        · subst hji; exact getD_set_true (hD k hk)
        · rw [getD_set_ne false (Ne.symm hji)] at hj
          exact getD_set_true (hI.closed j hj k hk)
    unfold wpOp
    simp only [ho]
    have hw2 := hw (fun v w' hr hφ => ⟨v, rfl, hr, hφ⟩)
    split at hw2
    · rename_i hwa
      rw [if_pos hwa]
      refine .inl ?_
      have h3 : o.wp P a w (wpAny P .any ops Q fuel (listed.setIfInBounds i true)) (fun _ _ _ => False) :=
        Oper.wp_mono (fun a' w' ⟨v, he, hr, hφ⟩ => by subst he; exact hnext v w' hr hφ) hw2
      exact wp_exit h3
    · rename_i hwa
      rw [if_neg hwa]
      obtain ⟨v, he, hr, hφ⟩ := hw2
      rw [he]
      exact hnext v w hr hφ
where
  wp_exit {o : Oper} {a : Act} {w : World} {K : Act → World → Prop} {Q : Exit → Act → World → Prop} (h : o.wp P a w K (fun _ _ _ => False)) : o.wp P a w K Q := by
    unfold Oper.wp at *
    generalize (execOp a.eval o).run P w = r at *
    cases r with
    | ok n w' =>
      cases n <;> simp only [Oper.upon] at h ⊢
      case enter f args =>
        refine Calls.mono h fun e w'' he => ?_
        cases e with
        | returned v => exact he
        | panicked c => exact he.elim
        | outgrown => obtain ⟨_, _, hq⟩ := he; exact hq.elim
      all_goals exact h
    | halt x w' => cases x <;> simp only [Oper.upon] at h

/-- **A region that draws its order, by facts.** -/
theorem wp_region_factsD {id : Nat} {a0 : Act} {w0 : World} {Q : Exit → Act → World → Prop} (R : World → World → Prop) (m : Nat) (I : World → Prop) (T : Nat → World → World → Prop) (D : Array (List Nat)) (Φ : Nat → (Nat → Value) → Value → World → Prop) (hm : P.follows .mixedOrders = true)
    (hRt : ∀ {a b c : World}, R a b → R b c → R a c) (hrr : ∀ w, R w w) (hTR : ∀ i w w', T i w w' → R w w') (hTr : ∀ i w, T i w w) (hTI : ∀ i, i ≠ m → ∀ w w', T i w w' → I w → I w') (hcg : ∀ j y y' v w, (∀ k ∈ D.getD j [], y k = y' k) → Φ j y v w → Φ j y' v w) (hI0 : I w0.drew) (hd : R w0 w0.drew) (hchk : factsOK ops D = true) (hst : ∀ i j, i ≠ j → i ∉ D.getD j [] → ∀ y v w w', T i w w' → Φ j y v w → Φ j y v w')
    (hop : allWords (opWordT P ops m I T R D Φ a0 w0) 0 ops.toList)
    (hfin : ∀ y w, R w0 w → (∀ j, j < ops.size → Φ j y (y j) w) → Q .normal (fillL y (pairsOf ops) a0) w) : (Code.region id ops true).wp P Q a0 w0 := by
  refine wp_region_any hm ?_
  refine wpAny_of_factsD (m := m) (I := I) (T := T) (R := R) (D := D) (Φ := Φ) (a0 := a0) (w0 := w0) hRt hTR hTr hTI hcg hchk hst hrr (fun i o ho => ?_) hfin ops.size _ a0 _ (fun j => match (ops[j]?).bind (·.dst) with | some d => a0.tmps.getD d undef | none => undef) ?_ ⟨by simp, ?_, hd, fun _ => hI0, ?_, ?_, ?_⟩
  · have := allWords_get _ 0 i o hop (by simpa using ho)
    simpa using this
  · exact Nat.le_trans (List.length_filter_le _ _) (by simp)
  · symm
    have : ∀ (L : List (Nat × Nat)), (∀ p ∈ L, (ops[p.2]?).bind (·.dst) = some p.1) → fillL (fun j => match (ops[j]?).bind (·.dst) with | some d => a0.tmps.getD d undef | none => undef) L a0 = a0 := by
      intro L
      induction L with
      | nil => intro _; rfl
      | cons p L ih =>
        intro h
        obtain ⟨d, j⟩ := p
        have hd := h (d, j) (by simp)
        simp only at hd
        show fillL _ L (a0.put (some d) _) = a0
        simp only [hd]
        rw [put_self]
        exact ih (fun p hp => h p (by simp [hp]))
    exact this _ (fun p hp => mem_pairsOf.1 hp)
  · intro j hj
    have h : (Array.replicate ops.size false).getD j false = false := by
      simp [Array.getD]
    rw [h] at hj; cases hj
  · intro j d _ hdst
    simp only [hdst]
    exact put_self a0 d
  · intro j hj
    have h : (Array.replicate ops.size false).getD j false = false := by
      simp [Array.getD]
    rw [h] at hj; cases hj


def stLD (D : List (List Nat)) (T : Nat → World → World → Prop) : Nat → List ((Nat → Value) → Value → World → Prop) → Prop
  | _, [] => True
  | j, φ :: r => (∀ i, i ≠ j → (D.getD j []).contains i = false → ∀ y v w w', T i w w' → φ y v w → φ y v w') ∧ stLD D T (j + 1) r
theorem stLD_get {D : List (List Nat)} {T : Nat → World → World → Prop} : ∀ (Φ : List ((Nat → Value) → Value → World → Prop)) (j : Nat), stLD D T j Φ → ∀ k φ, Φ[k]? = some φ → ∀ i, i ≠ j + k → (D.getD (j + k) []).contains i = false → ∀ y v w w', T i w w' → φ y v w → φ y v w'
  | φ :: r, j, h, 0, ψ, hk => by
    simp at hk
    subst hk
    exact h.1
  | φ :: r, j, h, k + 1, ψ, hk => by
    intro i hi hd y v w w' hr
    exact stLD_get r (j + 1) h.2 k ψ (by simpa using hk) i (by omega) (by rw [show j + 1 + k = j + (k + 1) by omega]; exact hd) y v w w' hr
/-- **A region that draws its order, by facts, the tables written out.** -/
theorem wp_region_tablesD {id : Nat} {a0 : Act} {w0 : World} {Q : Exit → Act → World → Prop} (R : World → World → Prop) (m : Nat) (I : World → Prop) (T : Nat → World → World → Prop) (D : List (List Nat)) (C : List (List (Nat × Nat))) (F : List (Nat × Nat)) (Φ : List ((Nat → Value) → Value → World → Prop)) (hm : P.follows .mixedOrders = true)
    (hRt : ∀ {a b c : World}, R a b → R b c → R a c) (hrr : ∀ w, R w w) (hTR : ∀ i w w', T i w w' → R w w') (hTr : ∀ i w, T i w w) (hTI : ∀ i, i ≠ m → ∀ w w', T i w w' → I w → I w') (hI0 : I w0.drew) (hd : R w0 w0.drew) (hchk : tablesOK ops D C F = true) (hst : stLD D T 0 Φ) (hcg : cgLT D 0 Φ)
    (hop : allWT P ops m I T R Φ a0 w0 0 ops.toList D C)
    (hlen : Φ.length = ops.size)
    (hfin : ∀ y w, R w0 w → factsT y w 0 Φ → Q .normal (fillL y F a0) w) : (Code.region id ops true).wp P Q a0 w0 := by
  simp only [tablesOK, Bool.and_eq_true, decide_eq_true_eq, List.all_eq_true, List.mem_range] at hchk
  obtain ⟨⟨h1, h2⟩, h3⟩ := hchk
  subst h2
  refine wp_region_factsD R m I T D.toArray (fun j => Φ.getD j (fun _ _ _ => True)) hm hRt hrr hTR hTr hTI ?_ hI0 hd h1 ?_ (allW_wordsT D C h3 ops.toList 0 D C (by simp) (by simp) (by simp) hop) (fun y w hr hj => hfin y w hr (factsT_of Φ 0 (by simp) (fun j h => hj j (by rw [← hlen]; simpa using h))))
  · intro j y y' v w hk hφ
    rcases Nat.lt_or_ge j Φ.length with hj | hj
    · have e : Φ.getD j (fun _ _ _ => True) = Φ[j] := by simp [List.getD_eq_getElem?_getD, hj]
      rw [e] at hφ ⊢
      refine cgLT_get Φ 0 hcg j _ (List.getElem?_eq_getElem hj) y y' v w ?_ hφ
      intro q hq
      refine hk q ?_
      rw [Nat.zero_add] at hq
      simpa [Array.getD_eq_getD_getElem?, List.getD_eq_getElem?_getD] using hq
    · have e : Φ.getD j (fun _ _ _ => True) = fun _ _ _ => True := by simp [List.getD_eq_getElem?_getD, hj]
      rw [e]; trivial
  · intro i j hij hnd y v w w' hr hφ
    rcases Nat.lt_or_ge j Φ.length with hj | hj
    · have e : Φ.getD j (fun _ _ _ => True) = Φ[j] := by simp [List.getD_eq_getElem?_getD, hj]
      rw [e] at hφ ⊢
      refine stLD_get Φ 0 hst j _ (List.getElem?_eq_getElem hj) i (by rw [Nat.zero_add]; exact hij) ?_ y v w w' hr hφ
      rw [Nat.zero_add]
      cases hc : (D.getD j []).contains i with
      | false => rfl
      | true =>
        refine absurd ?_ hnd
        have : i ∈ D.getD j [] := by simpa using hc
        simpa [Array.getD_eq_getD_getElem?, List.getD_eq_getElem?_getD] using this
    · have e : Φ.getD j (fun _ _ _ => True) = fun _ _ _ => True := by simp [List.getD_eq_getElem?_getD, hj]
      rw [e]; trivial

end
end Go.Proofs.Ytfbeepkogcmlmaa

/-
  Keys: the reference's Order, by insertion: the plain part, and an append that leaves what lies ahead of it. Conditions: the list has at most 4096 keys.
-/
namespace Go.Proofs.Ytfbeepkogcmlmaa
open Go Go.ChangeShapes Go.WideShapes Go.ChangeAt Go.RowKit Go.Joins Go.Deep
set_option linter.unusedVariables false
set_option linter.unusedSimpArgs false

/-- The key at an index. -/
def keyAt (l : List ByteArray) (i : Nat) : ByteArray := l.getD i ByteArray.empty
theorem keyAt_get {l : List ByteArray} {i : Nat} {s : ByteArray} (h : l[i]? = some s) : keyAt l i = s := by simp [keyAt, List.getD_eq_getElem?_getD, h]
/-- The first i indices, in the order of their keys. -/
def OrdI (l : List ByteArray) (i : Nat) (X : List Nat) : Prop := X.Perm (List.range i) ∧ X.Pairwise fun a b => ltS (keyAt l a) (keyAt l b) = true
theorem OrdI.lt {l : List ByteArray} {i : Nat} {X : List Nat} (h : OrdI l i X) {x : Nat} (hx : x ∈ X) : x < i := by
  have := h.1.mem_iff.1 hx; simpa using this
theorem OrdI.len {l : List ByteArray} {i : Nat} {X : List Nat} (h : OrdI l i X) : X.length = i := by rw [h.1.length_eq]; simp
theorem OrdI.insert {l : List ByteArray} {i : Nat} {X : List Nat} (h : OrdI l i X) (at_ : Nat) (ha : at_ ≤ X.length) (h1 : ∀ x ∈ X.take at_, ltS (keyAt l x) (keyAt l i) = true) (h2 : ∀ x, X[at_]? = some x → ltS (keyAt l x) (keyAt l i) = false ∧ ¬ keyAt l x = keyAt l i) :
    OrdI l (i + 1) (X.take at_ ++ [i] ++ X.drop at_) := by
  obtain ⟨hp, hs⟩ := h
  constructor
  · rw [List.range_succ]
    have e : (X.take at_ ++ [i] ++ X.drop at_).Perm (i :: (X.take at_ ++ X.drop at_)) := by
      rw [List.append_assoc]
      exact List.perm_middle
    refine e.trans ?_
    rw [List.take_append_drop]
    refine (List.Perm.cons i hp).trans ?_
    have := List.perm_append_comm (l₁ := List.range i) (l₂ := [i])
    exact this.symm
  · rw [List.append_assoc, List.pairwise_append]
    have hd : ∀ y ∈ X.drop at_, ltS (keyAt l i) (keyAt l y) = true := by
      intro y hy
      cases hdr : X.drop at_ with
      | nil => rw [hdr] at hy; cases hy
      | cons z r =>
        have hz : X[at_]? = some z := by
          have := congrArg (fun q => q[0]?) hdr
          simpa using this
        obtain ⟨q1, q2⟩ := h2 z hz
        have hiz : ltS (keyAt l i) (keyAt l z) = true := by
          cases hc : ltS (keyAt l i) (keyAt l z) with
          | true => rfl
          | false => exact absurd (ltS_total q1 hc) q2
        rw [hdr] at hy
        rcases List.mem_cons.1 hy with rfl | hy
        · exact hiz
        · have hsd : (X.drop at_).Pairwise fun a b => ltS (keyAt l a) (keyAt l b) = true := hs.sublist (List.drop_sublist _ _)
          rw [hdr] at hsd
          exact ltS_trans hiz (List.rel_of_pairwise_cons hsd hy)
    refine ⟨hs.sublist (List.take_sublist _ _), ?_, ?_⟩
    · simp only [List.singleton_append, List.pairwise_cons]
      exact ⟨hd, hs.sublist (List.drop_sublist _ _)⟩
    · intro x hx y hy
      rcases List.mem_append.1 hy with hy | hy
      · simp at hy; subst hy; exact h1 x hx
      · exact ltS_trans (h1 x hx) (hd y hy)
theorem OrdI.done {l : List ByteArray} {X : List Nat} (h : OrdI l l.length X) : l.Nodup ∧ ordK l = (X.map fun (x : Nat) => (x : Int), 0) := by
  obtain ⟨hp, hs⟩ := h
  have hlt : ∀ x ∈ X, x < l.length := fun x hx => by have := hp.mem_iff.1 hx; simpa using this
  have hmap : (X.map fun x => keyAt l x).Perm l := by
    refine (hp.map _).trans ?_
    have : (List.range l.length).map (fun x => keyAt l x) = l := by
      apply List.ext_getElem (by simp)
      intro i h1 h2
      simp [keyAt, List.getD_eq_getElem?_getD, h2]
    rw [this]
  have hnd : l.Nodup := by
    refine hmap.nodup_iff.1 ?_
    refine List.Pairwise.map _ (fun a b hab e => ?_) hs
    rw [e, ltS_irrefl] at hab; cases hab
  refine ⟨hnd, ?_⟩
  unfold ordK
  rw [if_pos hnd]
  have hz : (X.map fun x => (keyAt l x, x)).Perm (l.zip (List.range l.length)) := by
    refine (hp.map _).trans ?_
    have : (List.range l.length).map (fun x => (keyAt l x, x)) = l.zip (List.range l.length) := by
      apply List.ext_getElem (by simp)
      intro i h1 h2
      have hi : i < l.length := by simpa using h1
      simp [keyAt, List.getD_eq_getElem?_getD, hi]
    rw [this]
  have hstr : (X.map fun x => (keyAt l x, x)).Pairwise (fun a b => ltS a.1 b.1 = true) := List.Pairwise.map _ (fun a b h => h) hs
  have hsr := sortP_sorted (l.zip (List.range l.length)) (by rw [List.map_fst_zip (by simp)]; exact hnd)
  have e := eq_of_strict _ _ (hz.trans (sortP_perm _).symm) hstr hsr
  rw [← e, List.map_map]
  rfl

/-! ### appends to rows of ints -/
def OwnI (w : World) (B : Nat) (v : Value) (L : List Int) : Prop := w.ownsRow B 3 1 v L.length (L.map (Value.int .i64))
theorem OwnI.nil (w : World) (B : Nat) : OwnI w B (.slice none 0 0) [] := World.ownsRow_nil _ _ _ _
theorem OwnI.row {w : World} {B : Nat} {v : Value} {L : List Int} (h : OwnI w B v L) : RowI w v L := by
  obtain ⟨a, c, rfl, h1, h2, h3⟩ := rows_form h
  refine ⟨a, c, rfl, h1, h2, h3, fun i x hx => ⟨trivial, ?_⟩⟩
  rcases h.2 with ⟨e, _⟩ | ⟨g, cap, cur, e, _, hg, _⟩
  · have hl : L.length = 0 := by injection e
    have : L = [] := List.eq_nil_of_length_eq_zero hl
    subst this; simp at hx
  · have ea : a = some ⟨g, 0, none⟩ := by injection e
    subst ea
    refine ⟨g, 0, rfl, ?_⟩
    have := World.ownsRow.cells h (g := g) rfl i (.int .i64 x) (by simp [hx])
    rw [add0] at this
    simpa using this
/-- Blocks below B stay; of every row of ints the first n cells stay. -/
def KeepN (B n : Nat) (w w' : World) : Prop :=
  Below B w w' ∧ ∀ (g : Nat) (cur : Array Value), w.heap[g]? = some (Obj.cells cur 3 (0, 0)) → ∃ cur' : Array Value, w'.heap[g]? = some (Obj.cells cur' 3 (0, 0)) ∧ cur'.size = cur.size ∧ cur'.toList.take n = cur.toList.take n
theorem KeepN.of_grew {B n : Nat} {w w' : World} (h : Grew w w') (hB : B ≤ w.heap.size) : KeepN B n w w' := ⟨Below.mono h hB, fun g cur hg => ⟨cur, h.heap hg, rfl, rfl⟩⟩
theorem OwnI.keep {B n : Nat} {w w' : World} {v : Value} {L : List Int} (h : OwnI w B v L) (hk : KeepN B n w w') (hn : L.length ≤ n) : OwnI w' B v L := by
  refine ⟨h.1, ?_⟩
  rcases h.2 with h2 | ⟨g, cap, cur, h1, hB, h2, h3, h4, h5, h6⟩
  · exact .inl h2
  · obtain ⟨cur', q1, q2, q3⟩ := hk.2 g cur h2
    refine .inr ⟨g, cap, cur', h1, hB, q1, h3, h4, by rw [q2]; exact h5, ?_⟩
    have e : cur'.toList.take (L.length * 1) = (cur'.toList.take n).take (L.length * 1) := by rw [List.take_take]; congr 1; omega
    have e2 : cur.toList.take (L.length * 1) = (cur.toList.take n).take (L.length * 1) := by rw [List.take_take]; congr 1; omega
    rw [e, q3, ← e2]; exact h6
theorem int_parts : ∃ i0, Try.prog.info? 3 = some i0 ∧ i0.zero = some (.int .i64 0) ∧ i0.size = 1 ∧ i0.bytes = 8 := by
  have h := Try.infoIntK
  cases hi : Try.prog.info? 3 with
  | none => rw [hi] at h; cases h
  | some i =>
    rw [hi] at h
    simp at h
    exact ⟨i, rfl, h.1, h.2.1, h.2.2⟩
set_option maxRecDepth 100000 in
/-- An append: what lies ahead of it stays. -/
theorem run_append_keep (w : World) (ty : TypeId) (B : Nat) (v : Value) (L : List Int) (hown : OwnI w B v L) (sv : Value) (L2 : List Int) (hsv : RowI w sv L2) (hlen : L.length + L2.length ≤ 16384) (hB : B ≤ w.heap.size) (hv0 : L.length = 0 → v = .slice none 0 0) :
    ∃ v' w', (Builtin.append_ #[69, 69] ty #[v, sv]).run Try.prog w = .ok v' w' ∧ OwnI w' B v' (L ++ L2) ∧ KeepN B (max L.length 1) w w' ∧ ((L ++ L2).length = 0 → v' = .slice none 0 0) ∧ (v = .slice none 0 0 → Grew w w') := by
  obtain ⟨i0, hi, hz0, hz1, hz2⟩ := int_parts
  obtain ⟨sa, c, rfl, hlc, hcm, hnil, hcell⟩ := hsv
  have ho0 := hown
  unfold OwnI at hown
  cases sa with
  | none =>
    have hc := hnil rfl
    subst hc
    have h0 : L2 = [] := List.eq_nil_of_length_eq_zero (by omega)
    subst h0
    have hrun := run_append_owned_none (P := Try.prog) (w := w) B 69 ty 3 i0 1 Try.underlying69 hi v L.length _ hown
    exact ⟨v, w, hrun, by rw [List.append_nil]; exact ho0, KeepN.of_grew (Grew.refl w) hB, fun h => hv0 (by simpa using h), fun _ => Grew.refl w⟩
  | some ad =>
    have hnews : ∀ j u, (L2.map (Value.int .i64))[j]? = some u → w.cell? (ad.add j) = some u := by
      intro j u hj
      rw [List.getElem?_map] at hj
      cases hq : L2[j]? with
      | none => rw [hq] at hj; cases hj
      | some x =>
        rw [hq] at hj
        obtain ⟨_, b, off, e, hc⟩ := hcell j x hq
        cases e
        simp at hj
        subst hj
        rw [add_off _ b off j rfl]
        exact hc
    have h1 : ∀ u ∈ L2.map (Value.int .i64), u.oneCell' = true := by
      intro u hu
      obtain ⟨x, _, rfl⟩ := List.mem_map.1 hu
      rfl
    have hl : (L2.map (Value.int .i64)).length = L2.length * 1 := by simp
    obtain ⟨v', w', hr, ho, hgr, hvn⟩ := run_append_own_wide (P := Try.prog) w B 69 ty 3 i0 (.int .i64 0) 1 8 Try.underlying69 hi hz0 hz1 hz2 rfl (by omega) v L.length _ hown ad L2.length c _ hl hnews h1 (by unfold maxLen; omega) (by omega) hB
    have hown' : OwnI w' B v' (L ++ L2) := by
      unfold OwnI
      rw [List.length_append, List.map_append]; exact ho
    refine ⟨v', w', hr, hown', ?_, fun h => hvn.2 ⟨hv0 (by rw [List.length_append] at h; omega), by rw [List.length_append] at h; omega⟩, fun e => by subst e; exact ⟨hgr.os, hgr.tape, hgr.output, hgr.size, fun k hk => hgr.block k hk (by simp [Value.ownBlock])⟩⟩
    rcases hown.2 with ⟨rfl, _⟩ | ⟨g, cap, cur, rfl, hbg, hg, hnc, hcm', hcs, htake⟩
    · exact KeepN.of_grew ⟨hgr.os, hgr.tape, hgr.output, hgr.size, fun k hk => hgr.block k hk (by simp [Value.ownBlock])⟩ hB
    · by_cases hroom : L.length + L2.length ≤ cap
      · obtain ⟨w2, hr2, ho2, hg2⟩ := run_append_own_spare (P := Try.prog) w B 69 ty 3 i0 1 Try.underlying69 hi hz1 g L.length cap _ hown ad L2.length c _ hl hnews h1 hroom
        rw [hr] at hr2
        cases hr2
        refine ⟨Below.grown (Below.refl _ _) hg2 hB (fun k e => by cases e; exact hbg), fun q cq hq => ?_⟩
        by_cases e : q = g
        · subst e
          rw [hg] at hq
          cases hq
          rcases ho2.2 with ⟨e, _⟩ | ⟨g', cap', cur', e, _, hgg, _, _, hcs', ht'⟩
          · cases e
          · cases e
            refine ⟨cur', hgg, by rw [hcs, hcs'], ?_⟩
            by_cases hL0 : L.length = 0
            · have := hv0 hL0; cases this
            · rw [show max L.length 1 = L.length by omega]
              have e1 : cur'.toList.take L.length = (cur'.toList.take ((L.length + L2.length) * 1)).take L.length := by rw [List.take_take]; congr 1; omega
              rw [e1, ht', List.take_left' (by simp)]
              rw [← htake]; congr 1; omega
        · exact ⟨cq, (hg2.block q (Array.getElem?_eq_some_iff.1 hq).1 (by intro e'; injection e' with e'; exact e e')).trans hq, rfl, rfl⟩
      · have holds : ∀ j u, (L.map (Value.int .i64))[j]? = some u → w.cell? ((⟨g, 0, none⟩ : Addr).add j) = some u := World.ownsRow.cells hown (g := g) rfl
        have hr2 := run_append_grow (P := Try.prog) w 69 ty 3 i0 (.int .i64 0) Try.underlying69 hi hz0 ⟨g, 0, none⟩ L.length cap _ (by rw [hz1]; simp) holds ad L2.length c _ (by rw [hz1]; exact hl) hnews (by omega) (by omega) (by rw [hz2]; exact growslice_fits_wide (by omega) (by omega))
        rw [hr] at hr2
        cases hr2
        exact KeepN.of_grew (((Grew.refl w).drew).alloc _) hB
/-- The steps of the statement that inserts an index. -/
def stepA (B at_ : Nat) (i : Nat) (w w' : World) : Prop := Below B w w' ∧ ((i = 7 ∧ KeepN B (max at_ 1) w w') ∨ (i = 11 ∧ KeepN B (at_ + 1) w w') ∨ Grew w w')
theorem stepA.below {B at_ : Nat} (i : Nat) (w w' : World) (h : stepA B at_ i w w') : Below B w w' := h.1
theorem stepA.refl {B at_ : Nat} (i : Nat) (w : World) : stepA B at_ i w w := ⟨Below.refl _ _, .inr (.inr (Grew.refl w))⟩
theorem stepA.grew {B at_ i : Nat} {w w' : World} (hB : B ≤ w.heap.size) (h : Grew w w') : stepA B at_ i w w' := ⟨Below.mono h hB, .inr (.inr h)⟩
theorem OwnI.step {B at_ i : Nat} {w w' : World} {v : Value} {L : List Int} (h : OwnI w B v L) (ht : stepA B at_ i w w') (h7 : i = 7 → L.length ≤ max at_ 1) (h11 : i = 11 → L.length ≤ at_ + 1) : OwnI w' B v L := by
  rcases ht.2 with ⟨e, hk⟩ | ⟨e, hk⟩ | hg
  · exact h.keep hk (h7 e)
  · exact h.keep hk (h11 e)
  · exact rows_grew h hg
theorem RowI.take {w : World} {a : Option Addr} {c : Nat} {L : List Int} (h : RowI w (.slice a L.length c) L) {k : Nat} (hk : k ≤ L.length) : RowI w (.slice a k c) (L.take k) := by
  obtain ⟨a', c', e, h1, h2, h3, h4⟩ := h
  cases e
  refine ⟨a, c, by rw [List.length_take]; congr 1; omega, by rw [List.length_take]; omega, h2, h3, fun i x hx => ?_⟩
  have hi : i < k := by have := (List.getElem?_eq_some_iff.1 hx).1; rw [List.length_take] at this; omega
  rw [List.getElem?_take, if_pos hi] at hx
  exact h4 i x hx
theorem RowI.drop {w : World} {g c : Nat} {L : List Int} (h : RowI w (.slice (some ⟨g, 0, none⟩) L.length c) L) {k : Nat} (hk : k ≤ L.length) : RowI w (.slice (some ⟨g, k, none⟩) (L.length - k) (c - k)) (L.drop k) := by
  obtain ⟨a', c', e, h1, h2, h3, h4⟩ := h
  cases e
  refine ⟨_, c - k, by rw [List.length_drop], by rw [List.length_drop]; omega, by unfold lenok at *; omega, fun h => (by cases h), fun i x hx => ?_⟩
  rw [List.getElem?_drop] at hx
  obtain ⟨_, b, off, e, hc⟩ := h4 (k + i) x hx
  cases e
  exact ⟨trivial, g, k, rfl, by rw [show k + i = 0 + (k + i) by omega]; exact hc⟩
theorem RowI.drop' {w : World} {g c : Nat} {L : List Int} (h : RowI w (.slice (some ⟨g, 0, none⟩) L.length c) L) {k : Nat} (hk : k ≤ L.length) : RowI w (.slice (if c = k then some ⟨g, 0, none⟩ else some ⟨g, k, none⟩) (L.length - k) (c - k)) (L.drop k) := by
  by_cases e : c = k
  · rw [if_pos e]
    have hc : L.length ≤ c := by obtain ⟨_, _, e', h1, _⟩ := h; cases e'; exact h1
    have hl : L.drop k = [] := List.drop_eq_nil_of_le (by omega)
    rw [hl]
    have h0 : L.length - k = 0 := by omega
    rw [h0]
    exact ⟨some ⟨g, 0, none⟩, c - k, rfl, Nat.zero_le _, by unfold lenok; omega, fun h => (by cases h), by simp⟩
  · rw [if_neg e]; exact h.drop hk
theorem RowI.below {w w' : World} {v : Value} {L : List Int} (h : RowI w v L) (hb : Below w.heap.size w w') : RowI w' v L := RowI.grew h hb
end Go.Proofs.Ytfbeepkogcmlmaa
