/-
  Texts of the proof, part 9 of 9.
-/
import Derived.Test.YtlhliolknaopjaaPH
import Derived.Test.YtlhliolknaopjaaPE
import Derived.Test.YtlhliolknaopjaaPF
import Derived.Test.YtlhliolknaopjaaPA
import Derived.Outline
import Derived.Laws.IdiomStrings
import Derived.WalkSpells
import Derived.Laws.Closers25b

/-
  Denote: the reference's keys, and the whole of it. Conditions: the bytes, the tree lie in memory; the tree is small.
-/
namespace Go.Proofs.Ytlhliolknaopjaa
open Go Go.ChangeShapes Go.WideShapes Go.ChangeAt Go.RowKit Go.Joins Go.Deep
set_option linter.unusedVariables false
set_option linter.unusedSimpArgs false

/-- Any value. -/
def AnyV (_ : Value) (_ : World) : Prop := True
theorem AnyV.st : ∀ v w w', Grew w w' → AnyV v w → AnyV v w' := fun _ _ _ _ h => h
theorem says_key (d : List UInt8) (pos w lim : Int) (k : ByteArray) (hw : isW w = true) : saysF d 4 pos w w lim (keyTr k) = keySays d pos w lim k := by
  unfold keyTr
  rw [says_eq, hw]
  have h1 : Ft.legalB 4 = true := by decide +kernel
  have h2 : Ft.inlineB 4 = false := by decide +kernel
  have h3 : farT 4 = true := by decide
  rw [h1, h2, h3]
  unfold keySays lookF keyF bareF
  simp only [Tr.kind, Tr.fn, Tr.fu, Tr.fs, Tr.keys, Tr.kids]
  cases hf : farB d 4 pos w w lim <;> simp [EMB] <;> (try rfl)
theorem key_nd (k : ByteArray) (hk : lenok k.size) (w : World) : NodeAt w (keyTr k) (.agg #[.int .i64 5, .int .i64 0, .int .u64 0, .string k, .slice none 0 0, .slice none 0 0]) :=
  ⟨⟨by unfold i64ok; omega, by unfold i64ok; omega, by unfold u64ok; omega, hk⟩, _, _, [], rfl, StrsAt.nil w, RowsAt.nil w, rfl⟩
/-- The keys that have been looked at. -/
def SeenK (d : List UInt8) (w at_ : Int) (l : List ByteArray) (kk : Nat) : Prop := (∀ j x, j < kk → l[j]? = some x → keySays d (at_ + (j : Int) * w) w (at_ - w) x = true) ∧ ∀ j a b, j + 1 < kk → l[j]? = some a → l[j + 1]? = some b → ltS a b = true
theorem SeenK.all {d : List UInt8} {w at_ : Int} {l : List ByteArray} (h : SeenK d w at_ l l.length) : incB l = true ∧ nameKids d w at_ 0 l = true := by
  refine ⟨inc_all l fun j a b ha hb => h.2 j a b (List.getElem?_eq_some_iff.1 hb).1 ha hb, names_iff.2 fun j x hx => ?_⟩
  have := h.1 j x (List.getElem?_eq_some_iff.1 hx).1 hx
  rw [Nat.zero_add]; exact this
theorem seen_no {d : List UInt8} {w at_ : Int} {l : List ByteArray} {j : Nat} {x : ByteArray} (hx : l[j]? = some x) (h : keySays d (at_ + (j : Int) * w) w (at_ - w) x = false) : nameKids d w at_ 0 l = false := by
  cases hn : nameKids d w at_ 0 l
  · rfl
  · have := names_iff.1 hn j x hx
    rw [Nat.zero_add, h] at this; cases this
set_option maxRecDepth 100000 in
set_option maxHeartbeats 4000000 in
theorem rkeys_walk (d : List UInt8) (l : List ByteArray) (hl : l.length ≤ 4096) (hsay : ∀ y ∈ l, RSays d 4 (keyTr y)) : RKeys d l := by
  intro dv first x kv w hD hks hf hw
  have HD := Lib.hid hD
  have HKS := Lib.hid hks
  have hdl := hD.2.1
  obtain ⟨da, dc, rfl, hdc⟩ := hD.form
  obtain ⟨a4, c4, rfl, hk1, hk2, hk3⟩ := hks
  have HW := Lib.hid hw
  clear hD hk2 hk3
  have hw1 : 1 ≤ x ∧ x ≤ 8 := by rcases isW_cases hw with rfl | rfl | rfl | rfl <;> omega
  have HG := Lib.hid (Grew.refl w)
  have hwa : IntKind.i64.wrap (first + x) = first + x := by rw [IntKind.wrap_i64]; omega
  obtain ⟨res, hres⟩ : ∃ b, keysF d first x l = b := ⟨_, rfl⟩
  rw [hres]
  have HRES := Lib.hid hres
  clear hres
  unfold keysF at HRES
  have hn1 := fun w h => r27num_any d (.slice da d.length dc) first x w h
  have hn2 := fun w h => r27num_any d (.slice da d.length dc) (first + x) x w h
  unfold numR at hn1 hn2
  have hp2 : 0 ≤ (numF d (first + x) x).1 ∧ (numF d (first + x) x).1 ≤ 9007199254740992 := by have := loadF_pos d (first + x) x; unfold numF; simp only; omega
  have hp3 : 0 ≤ (numF d first x).1 ∧ (numF d first x).1 ≤ 9007199254740992 := by have := loadF_pos d first x; unfold numF; simp only; omega
  generalize numF d first x = q1 at *
  generalize numF d (first + x) x = q2 at *
  obtain ⟨off, is_⟩ := q1
  obtain ⟨wide, so⟩ := q2
  simp only at hn1 hn2 hp2 hp3 HRES
  obtain ⟨o2, ho2⟩ : ∃ q, (if is_ = true then off else 0) = q := ⟨_, rfl⟩
  obtain ⟨w2, hw2⟩ : ∃ q, (if so = true then wide else 0) = q := ⟨_, rfl⟩
  rw [ho2] at hn1
  rw [hw2] at hn2
  have hob : 0 ≤ o2 ∧ o2 ≤ 9007199254740992 := by rw [← ho2]; split <;> omega
  have hwo : IntKind.i64.wrap (first - o2) = first - o2 := by rw [IntKind.wrap_i64]; omega
  have HN1 := Lib.hid hn1
  have HN2 := Lib.hid hn2
  clear hn1 hn2
  go_enter Try.func90, Try.ntmps90
  go_wp2_with fail
  refine (HN1.out w HD.out).mono ?_
  rintro r u1 ⟨rfl, rfl⟩
  go_wp2_with fail
  refine (HN2.out u1 HD.out).mono ?_
  rintro r u2 ⟨rfl, rfl⟩
  cases is_
  · skip
    have HV : Hid (res = false) := by show _ = _; rw [← HRES.out]; simp
    go_wp2_with fail
    go_ret
    exact ⟨by rw [HV.out]; rfl, HG.out⟩
  cases so
  · skip
    have HV : Hid (res = false) := by show _ = _; rw [← HRES.out]; simp
    go_wp2_with fail
    go_ret
    exact ⟨by rw [HV.out]; rfl, HG.out⟩
  obtain rfl : off = o2 := by simpa using ho2
  obtain rfl : wide = w2 := by simpa using hw2
  clear ho2 hw2
  go_wp2_with fail
  obtain ⟨bw, hbw⟩ : ∃ b, isW wide = b := ⟨_, rfl⟩
  have HWD : Hid (∀ w, Calls Try.prog 26 #[.int .i64 wide] w fun r w' => r = .returned (.bool bw) ∧ w' = w) := fun w => by rw [← hbw]; exact rw27_any wide w
  refine (HWD.out u2).mono ?_
  rintro r u3 ⟨rfl, rfl⟩
  cases bw
  · have HV : Hid (res = false) := by show _ = _; rw [← HRES.out, hbw]; simp
    go_wp2_with fail
    go_ret
    exact ⟨by rw [HV.out]; rfl, HG.out⟩
  have HWW := Lib.hid hbw
  have hwd : 1 ≤ wide ∧ wide ≤ 8 := by rcases isW_cases hbw with rfl | rfl | rfl | rfl <;> omega
  clear hbw
  by_cases hle : 0 ≤ first - off
  rotate_left
  · have hgt : first - off < 0 := by omega
    have HV : Hid (res = false) := by show _ = _; rw [← HRES.out]; simp [show ¬ off ≤ first by omega]
    go_wp2_with fail
    go_ret
    exact ⟨by rw [HV.out]; rfl, HG.out⟩
  have hwc : IntKind.i64.wrap (first - off - wide) = first - off - wide := by rw [IntKind.wrap_i64]; omega
  have hlt : first - off - wide < first := by omega
  obtain ⟨at_, hat⟩ : ∃ q, first - off = q := ⟨_, rfl⟩
  rw [hat] at hle hwc hwo hlt HRES ⊢
  have hat2 : at_ ≤ 1048576 := by omega
  have hnlt : ¬ first ≤ at_ - wide := by omega
  have ht : Int.tmod at_ wide = at_ % wide := Int.tmod_eq_emod_of_nonneg hle
  have hwz : (wide == 0) = false := by rw [beq_eq_false_iff_ne]; omega
  have hm0 : 0 ≤ at_ % wide ∧ at_ % wide < 8 := ⟨Int.emod_nonneg _ (by omega), Int.lt_of_lt_of_le (Int.emod_lt_of_pos _ (by omega)) hwd.2⟩
  have hwm : IntKind.i64.wrap (at_ % wide) = at_ % wide := by rw [IntKind.wrap_i64]; omega
  have HRS : Hid (res = (incB l && (decide (at_ % wide = 0) && decide (at_ + l.length * wide ≤ d.length) && ((numF d (at_ - wide) wide).2 && decide ((numF d (at_ - wide) wide).1 = l.length)) && nameKids d wide at_ 0 l))) := by show _ = _; rw [← HRES.out, HWW.out, decide_eq_true hlt, show decide (off ≤ first) = true from decide_eq_true (by omega)]; simp [namesF]
  obtain ⟨md, hmd⟩ : ∃ q, at_ % wide = q := ⟨_, rfl⟩
  rw [hmd] at ht hwm hm0 HRS
  clear hmd hat HRES
  by_cases hm : md = 0
  rotate_left
  · have hbx : (md != 0) = true := by simpa using hm
    have HV : Hid (res = false) := by show _ = _; rw [HRS.out]; simp [hm]
    go_wp2_with fail
    go_ret
    exact ⟨by rw [HV.out]; rfl, HG.out⟩
  subst hm
  obtain ⟨nn, hnn⟩ : ∃ q, numF d (at_ - wide) wide = q := ⟨_, rfl⟩
  have hnum := fun w h => r27num_any d (.slice da d.length dc) (at_ - wide) wide w h
  unfold numR at hnum
  rw [hnn] at HRS hnum
  have HNU := Lib.hid hnum
  clear hnn hnum
  obtain ⟨nv, ni⟩ := nn
  simp only at HRS HNU
  go_wp2_with fail
  refine (HNU.out u3 HD.out).mono ?_
  rintro r u4 ⟨rfl, rfl⟩
  cases ni
  · simp only [Bool.false_eq_true, if_false]
    have HV : Hid (res = false) := by show _ = _; rw [HRS.out]; simp
    go_wp2_with fail
    go_ret
    exact ⟨by rw [HV.out]; rfl, HG.out⟩
  simp only [if_true]
  by_cases hnv : nv = (l.length : Int)
  rotate_left
  · have hbx : (nv != (l.length : Int)) = true := by simpa using hnv
    have HV : Hid (res = false) := by show _ = _; rw [HRS.out]; simp [hnv]
    go_wp2_with fail
    go_ret
    exact ⟨by rw [HV.out]; rfl, HG.out⟩
  have hnw : 0 ≤ (l.length : Int) * wide ∧ (l.length : Int) * wide ≤ 32768 := by
    refine ⟨Int.mul_nonneg (by omega) (by omega), ?_⟩
    have h1 := Int.mul_le_mul (show (l.length : Int) ≤ 4096 by omega) hwd.2 (by omega) (by omega)
    omega
  subst hnv
  have hws : IntKind.i64.wrap ((l.length : Int) * wide) = (l.length : Int) * wide := by rw [IntKind.wrap_i64]; omega
  have hwe : IntKind.i64.wrap (at_ + (l.length : Int) * wide) = at_ + (l.length : Int) * wide := by rw [IntKind.wrap_i64]; omega
  by_cases hend : at_ + (l.length : Int) * wide ≤ d.length
  rotate_left
  · have hgt : (d.length : Int) < at_ + (l.length : Int) * wide := by omega
    have HV : Hid (res = false) := by show _ = _; rw [HRS.out]; simp [hend]
    go_wp2_with fail
    go_ret
    exact ⟨by rw [HV.out]; rfl, HG.out⟩
  have hngt : ¬ (d.length : Int) < at_ + (l.length : Int) * wide := by omega
  have HRS2 : Hid (res = (incB l && nameKids d wide at_ 0 l)) := by show _ = _; rw [HRS.out]; simp [hend]
  go_wp2_with fail
  go_loopw [16] (fun i wr => ∃ kk : Nat, kk ≤ l.length ∧ i = .int .i64 kk ∧ Hid (Grew u4 wr ∧ SeenK d wide at_ l kk)) (fun i _ => l.length - (intOf i).toNat)
  case atStart => exact ⟨0, Nat.zero_le _, rfl, by show _ ∧ _; exact ⟨Grew.refl _, fun j x h => by omega, fun j a b h => by omega⟩⟩
  case round =>
    obtain ⟨kk, hkk, rfl, HL⟩ := hrel
    have HGW := Lib.hid (HG.out.trans HL.out.1)
    by_cases hlt2 : kk < l.length
    rotate_left
    · have ek : kk = l.length := by omega
      have HV : Hid (res = true) := by
        show _ = _
        have h := HL.out.2
        rw [ek] at h
        rw [HRS2.out, h.all.1, h.all.2]; rfl
      subst ek
      go_wp2_with fail
      go_ret
      exact ⟨by rw [HV.out]; rfl, HGW.out⟩
    obtain ⟨y, hy⟩ : ∃ y, l[kk]? = some y := ⟨_, List.getElem?_eq_getElem hlt2⟩
    obtain ⟨_, _, ee, hlc4, hlk4, _, hcell⟩ := HKS.out
    cases ee
    obtain ⟨hyz, b1, o1, e2, hc⟩ := hcell kk y hy
    subst e2
    have cy := HGW.out.cell hc
    have HY := Lib.hid hy
    have HYM := Lib.hid (hsay y (List.mem_of_getElem? hy))
    have hlti : (kk : Int) < l.length := by omega
    have hkw : 0 ≤ (kk : Int) * wide ∧ (kk : Int) * wide ≤ 32768 := by
      refine ⟨Int.mul_nonneg (by omega) (by omega), ?_⟩
      have h1 := Int.mul_le_mul (show (kk : Int) ≤ 4096 by omega) hwd.2 (by omega) (by omega)
      omega
    have hwk : IntKind.i64.wrap ((kk : Int) * wide) = (kk : Int) * wide := by rw [IntKind.wrap_i64]; omega
    have hwk2 : IntKind.i64.wrap (at_ + (kk : Int) * wide) = at_ + (kk : Int) * wide := by rw [IntKind.wrap_i64]; omega
    have hwk3 : IntKind.i64.wrap (at_ - wide) = at_ - wide := by rw [IntKind.wrap_i64]; omega
    obtain ⟨sB, hsB⟩ : ∃ b, keySays d (at_ + (kk : Int) * wide) wide (at_ - wide) y = b := ⟨_, rfl⟩
    have HSB := Lib.hid hsB
    have hcall := fun (w' : World) (h : Grew wr w') => HYM.out (.slice da d.length dc) (at_ + (kk : Int) * wide) wide wide (at_ - wide) _ w' (HD.out.grew (HGW.out.trans h)) (key_nd y hyz w') (by unfold i64ok; omega)
    rw [says_key d _ wide _ y HWW.out, hsB] at hcall
    have HCALL := Lib.hid hcall
    clear hcall hsB hc hy
    go_upto_region 13 with fail
    have hry := heap_alloc_new wr (.cells #[.int .i64 (at_ + (kk : Int) * wide), .int .i64 wide, .int .i64 4, .int .i64 wide] 35)
    have hgy := (Grew.refl wr).alloc (.cells #[.int .i64 (at_ + (kk : Int) * wide), .int .i64 wide, .int .i64 4, .int .i64 wide] 35)
    generalize (wr.alloc (.cells #[.int .i64 (at_ + (kk : Int) * wide), .int .i64 wide, .int .i64 4, .int .i64 wide] 35)) = y1 at *
    obtain ⟨px, hpx⟩ : ∃ N, wr.heap.size = N := ⟨_, rfl⟩
    rw [hpx] at hry ⊢
    have HRY := Lib.hid hry
    have HGY := Lib.hid hgy
    clear hry hgy hpx
    replace cy := HGY.out.cell cy
    have g0 := row_cellT HRY.out 0 _ rfl
    have g1 := row_cellT HRY.out 1 _ rfl
    have g2 := row_cellT HRY.out 2 _ rfl
    have g3 := row_cellT HRY.out 3 _ rfl
    cases sB
    · skip
      refine wp_region_tables Grew [[], [], [], [], [2, 3], [], [], [5, 6], [5, 6, 7], [5, 6, 7, 8], [0, 1, 2, 3, 4, 5, 6, 7, 8, 9], [0, 1, 2, 3, 4, 5, 6, 7, 8, 9, 10], [0, 1, 2, 3, 4, 5, 6, 7, 8, 9, 10, 11], [0, 1, 2, 3, 4, 5, 6, 7, 8, 9, 10, 11, 12], [0, 1, 2, 3, 4, 5, 6, 7, 8, 9, 10, 11, 12, 13], [0, 1, 2, 3, 4, 5, 6, 7, 8, 9, 10, 11, 12, 13, 14], [0, 1, 2, 3, 4, 5, 6, 7, 8, 9, 10, 11, 12, 13, 14, 15], [0, 1, 2, 3, 4, 5, 6, 7, 8, 9, 10, 11, 12, 13, 14, 15], [0, 1, 2, 3, 4, 5, 6, 7, 8, 9, 10, 11, 12, 13, 14, 15, 17], [0, 1, 2, 3, 4, 5, 6, 7, 8, 9, 10, 11, 12, 13, 14, 15, 16, 17, 18], [0, 1, 2, 3, 4, 5, 6, 7, 8, 9, 10, 11, 12, 13, 14, 15, 16, 17, 18, 19], [0, 1, 2, 3, 4, 5, 6, 7, 8, 9, 10, 11, 12, 13, 14, 15], [0, 1, 2, 3, 4, 5, 6, 7, 8, 9, 10, 11, 12, 13, 14, 15], [0, 1, 2, 3, 4, 5, 6, 7, 8, 9, 10, 11, 12, 13, 14, 15, 21, 22], [0, 1, 2, 3, 4, 5, 6, 7, 8, 9, 10, 11, 12, 13, 14, 15, 21, 22, 23], [0, 1, 2, 3, 4, 5, 6, 7, 8, 9, 10, 11, 12, 13, 14, 15, 16, 17, 18, 19, 20, 21, 22, 23, 24], [0, 1, 2, 3, 4, 5, 6, 7, 8, 9, 10, 11, 12, 13, 14, 15, 16, 17, 18, 19, 20, 21, 22, 23, 24, 25], [0, 1, 2, 3, 4, 5, 6, 7, 8, 9, 10, 11, 12, 13, 14, 15, 16, 17, 18, 19, 20, 21, 22, 23, 24, 25, 26], [0, 1, 2, 3, 4, 5, 6, 7, 8, 9, 10, 11, 12, 13, 14, 15, 16, 17, 18, 19, 20, 21, 22, 23, 24, 25, 26, 27]] [[(106, 1), (107, 2), (108, 3), (109, 4), (110, 5), (111, 6), (112, 7), (113, 8), (114, 9)], [(105, 0), (107, 2), (108, 3), (109, 4), (110, 5), (111, 6), (112, 7), (113, 8), (114, 9)], [(105, 0), (106, 1), (108, 3), (110, 5), (111, 6), (112, 7), (113, 8), (114, 9)], [(105, 0), (106, 1), (107, 2), (110, 5), (111, 6), (112, 7), (113, 8), (114, 9)], [(105, 0), (106, 1), (107, 2), (108, 3), (110, 5), (111, 6), (112, 7), (113, 8), (114, 9)], [(105, 0), (106, 1), (107, 2), (108, 3), (109, 4), (111, 6)], [(105, 0), (106, 1), (107, 2), (108, 3), (109, 4), (110, 5)], [(105, 0), (106, 1), (107, 2), (108, 3), (109, 4), (110, 5), (111, 6)], [(105, 0), (106, 1), (107, 2), (108, 3), (109, 4), (110, 5), (111, 6), (112, 7)], [(105, 0), (106, 1), (107, 2), (108, 3), (109, 4), (110, 5), (111, 6), (112, 7), (113, 8)], [(105, 0), (106, 1), (107, 2), (108, 3), (109, 4), (110, 5), (111, 6), (112, 7), (113, 8), (114, 9)], [(105, 0), (106, 1), (107, 2), (108, 3), (109, 4), (110, 5), (111, 6), (112, 7), (113, 8), (114, 9), (115, 10)], [(105, 0), (106, 1), (107, 2), (108, 3), (109, 4), (110, 5), (111, 6), (112, 7), (113, 8), (114, 9), (115, 10), (116, 11)], [(105, 0), (106, 1), (107, 2), (108, 3), (109, 4), (110, 5), (111, 6), (112, 7), (113, 8), (114, 9), (115, 10), (116, 11), (117, 12)], [(105, 0), (106, 1), (107, 2), (108, 3), (109, 4), (110, 5), (111, 6), (112, 7), (113, 8), (114, 9), (115, 10), (116, 11), (117, 12), (118, 13)], [(105, 0), (106, 1), (107, 2), (108, 3), (109, 4), (110, 5), (111, 6), (112, 7), (113, 8), (114, 9), (115, 10), (116, 11), (117, 12), (118, 13), (119, 14)], [(105, 0), (106, 1), (107, 2), (108, 3), (109, 4), (110, 5), (111, 6), (112, 7), (113, 8), (114, 9), (115, 10), (116, 11), (117, 12), (118, 13), (119, 14), (120, 15), (122, 17), (123, 18), (126, 21), (127, 22), (128, 23), (129, 24)], [(105, 0), (106, 1), (107, 2), (108, 3), (109, 4), (110, 5), (111, 6), (112, 7), (113, 8), (114, 9), (115, 10), (116, 11), (117, 12), (118, 13), (119, 14), (120, 15), (121, 16), (126, 21), (127, 22), (128, 23), (129, 24)], [(105, 0), (106, 1), (107, 2), (108, 3), (109, 4), (110, 5), (111, 6), (112, 7), (113, 8), (114, 9), (115, 10), (116, 11), (117, 12), (118, 13), (119, 14), (120, 15), (121, 16), (122, 17), (126, 21), (127, 22), (128, 23), (129, 24)], [(105, 0), (106, 1), (107, 2), (108, 3), (109, 4), (110, 5), (111, 6), (112, 7), (113, 8), (114, 9), (115, 10), (116, 11), (117, 12), (118, 13), (119, 14), (120, 15), (121, 16), (122, 17), (123, 18), (126, 21), (127, 22), (128, 23), (129, 24)], [(105, 0), (106, 1), (107, 2), (108, 3), (109, 4), (110, 5), (111, 6), (112, 7), (113, 8), (114, 9), (115, 10), (116, 11), (117, 12), (118, 13), (119, 14), (120, 15), (121, 16), (122, 17), (123, 18), (124, 19), (126, 21), (127, 22), (128, 23), (129, 24)], [(105, 0), (106, 1), (107, 2), (108, 3), (109, 4), (110, 5), (111, 6), (112, 7), (113, 8), (114, 9), (115, 10), (116, 11), (117, 12), (118, 13), (119, 14), (120, 15), (121, 16), (122, 17), (123, 18), (124, 19), (125, 20), (127, 22)], [(105, 0), (106, 1), (107, 2), (108, 3), (109, 4), (110, 5), (111, 6), (112, 7), (113, 8), (114, 9), (115, 10), (116, 11), (117, 12), (118, 13), (119, 14), (120, 15), (121, 16), (122, 17), (123, 18), (124, 19), (125, 20), (126, 21)], [(105, 0), (106, 1), (107, 2), (108, 3), (109, 4), (110, 5), (111, 6), (112, 7), (113, 8), (114, 9), (115, 10), (116, 11), (117, 12), (118, 13), (119, 14), (120, 15), (121, 16), (122, 17), (123, 18), (124, 19), (125, 20), (126, 21), (127, 22)], [(105, 0), (106, 1), (107, 2), (108, 3), (109, 4), (110, 5), (111, 6), (112, 7), (113, 8), (114, 9), (115, 10), (116, 11), (117, 12), (118, 13), (119, 14), (120, 15), (121, 16), (122, 17), (123, 18), (124, 19), (125, 20), (126, 21), (127, 22), (128, 23)], [(105, 0), (106, 1), (107, 2), (108, 3), (109, 4), (110, 5), (111, 6), (112, 7), (113, 8), (114, 9), (115, 10), (116, 11), (117, 12), (118, 13), (119, 14), (120, 15), (121, 16), (122, 17), (123, 18), (124, 19), (125, 20), (126, 21), (127, 22), (128, 23), (129, 24)], [(105, 0), (106, 1), (107, 2), (108, 3), (109, 4), (110, 5), (111, 6), (112, 7), (113, 8), (114, 9), (115, 10), (116, 11), (117, 12), (118, 13), (119, 14), (120, 15), (121, 16), (122, 17), (123, 18), (124, 19), (125, 20), (126, 21), (127, 22), (128, 23), (129, 24), (130, 25)], [(105, 0), (106, 1), (107, 2), (108, 3), (109, 4), (110, 5), (111, 6), (112, 7), (113, 8), (114, 9), (115, 10), (116, 11), (117, 12), (118, 13), (119, 14), (120, 15), (121, 16), (122, 17), (123, 18), (124, 19), (125, 20), (126, 21), (127, 22), (128, 23), (129, 24), (130, 25), (131, 26)], [(105, 0), (106, 1), (107, 2), (108, 3), (109, 4), (110, 5), (111, 6), (112, 7), (113, 8), (114, 9), (115, 10), (116, 11), (117, 12), (118, 13), (119, 14), (120, 15), (121, 16), (122, 17), (123, 18), (124, 19), (125, 20), (126, 21), (127, 22), (128, 23), (129, 24), (130, 25), (131, 26), (132, 27)]] [(105, 0), (106, 1), (107, 2), (108, 3), (109, 4), (110, 5), (111, 6), (112, 7), (113, 8), (114, 9), (115, 10), (116, 11), (117, 12), (118, 13), (119, 14), (120, 15), (121, 16), (122, 17), (123, 18), (124, 19), (125, 20), (126, 21), (127, 22), (128, 23), (129, 24), (130, 25), (131, 26), (132, 27), (133, 28)]
        [Is (.slice da d.length dc), Is (.agg #[.int .i64 (at_ + (kk : Int) * wide), .int .i64 wide, .int .i64 4, .int .i64 wide]), Is (.int .i64 at_), Is (.int .i64 wide), Is (.int .i64 (at_ - wide)), Is (.slice (some ⟨b1, o1, none⟩) l.length c4), Is (.int .i64 ((kk : Int))), Is (.pointer (some ⟨b1, o1 + kk, none⟩)), Is (.string y), Is (.agg #[.int .i64 5, .int .i64 0, .int .u64 0, .string y, .slice none 0 0, .slice none 0 0]), Is (.bool false), Is (.bool true), Is (.bool true), Is (undef), Is (undef), Is (undef), AnyV, AnyV, AnyV, AnyV, AnyV, AnyV, AnyV, AnyV, AnyV, AnyV, AnyV, AnyV, Is (.bool true)]
        (by kernel_rfl) Grew.trans Grew.refl (Grew.refl _).drew (by kernel_rfl) ⟨is_st, is_st, is_st, is_st, is_st, is_st, is_st, is_st, is_st, is_st, is_st, is_st, is_st, is_st, is_st, is_st, AnyV.st, AnyV.st, AnyV.st, AnyV.st, AnyV.st, AnyV.st, AnyV.st, AnyV.st, AnyV.st, AnyV.st, AnyV.st, AnyV.st, is_st, trivial⟩ ?_ rfl ?_
      rotate_left
      · intro y w2 hG hF
        simp only [factsH, Is, and_true, Nat.reduceAdd] at hF
        have hlast := hF.2.2.2.2.2.2.2.2.2.2.2.2.2.2.2.2.2.2.2.2.2.2.2.2.2.2.2.2
        clear hF
        simp only [fillL, Act.put, List.setIfInBounds_toArray, List.set_cons_zero, List.set_cons_succ, List.getD_cons_zero, List.getD_cons_succ, hlast]
        have HGF := Lib.hid (HGW.out.trans (HGY.out.trans hG))
        have HV : Hid (res = false) := by show _ = _; rw [HRS2.out]; rw [seen_no HY.out HSB.out]; simp
        clear hG hlast
        go_wp2_with fail
        go_ret
        exact ⟨by rw [HV.out]; rfl, HGF.out⟩
      refine ⟨?_, ?_⟩
      · intro y w2 hG hD K hK
        generalize hA : fillL y _ _ = A at hK ⊢
        simp only [fillL, Act.put, List.setIfInBounds_toArray, List.set_cons_zero, List.set_cons_succ, List.getD_cons_zero, List.getD_cons_succ, Is] at hA
        subst hA
        refine ite_yes (by rfl) ?_
        go_simp
        exact hK _ _ _ rfl (Grew.refl _) rfl
      refine ⟨?_, ?_⟩
      · intro y w2 hG hD K hK
        have dg0 := hG.cell g0
        have dg1 := hG.cell g1
        have dg2 := hG.cell g2
        have dg3 := hG.cell g3
        generalize hA : fillL y _ _ = A at hK ⊢
        simp only [fillL, Act.put, List.setIfInBounds_toArray, List.set_cons_zero, List.set_cons_succ, List.getD_cons_zero, List.getD_cons_succ, Is] at hA
        subst hA
        refine ite_yes (by rfl) ?_
        go_simp
        exact hK _ _ _ rfl (Grew.refl _) rfl
      refine ⟨?_, ?_⟩
      · intro y w2 hG hD K hK
        generalize hA : fillL y _ _ = A at hK ⊢
        simp only [fillL, Act.put, List.setIfInBounds_toArray, List.set_cons_zero, List.set_cons_succ, List.getD_cons_zero, List.getD_cons_succ, Is] at hA
        subst hA
        refine ite_yes (by rfl) ?_
        go_simp
        exact hK _ _ _ rfl (Grew.refl _) rfl
      refine ⟨?_, ?_⟩
      · intro y w2 hG hD K hK
        generalize hA : fillL y _ _ = A at hK ⊢
        simp only [fillL, Act.put, List.setIfInBounds_toArray, List.set_cons_zero, List.set_cons_succ, List.getD_cons_zero, List.getD_cons_succ, Is] at hA
        subst hA
        refine ite_yes (by rfl) ?_
        go_simp
        exact hK _ _ _ rfl (Grew.refl _) rfl
      refine ⟨?_, ?_⟩
      · intro y w2 hG hD K hK
        simp only [depsH, List.getD_cons_zero, List.getD_cons_succ, Is, and_true] at hD
        have h2 := hD.1
        have h3 := hD.2
        clear hD
        generalize hA : fillL y _ _ = A at hK ⊢
        simp only [fillL, Act.put, List.setIfInBounds_toArray, List.set_cons_zero, List.set_cons_succ, List.getD_cons_zero, List.getD_cons_succ, Is] at hA
        subst hA
        simp only [h2, h3] at hK ⊢
        clear h2 h3
        refine ite_yes (by rfl) ?_
        go_simp
        exact hK _ _ _ rfl (Grew.refl _) rfl
      refine ⟨?_, ?_⟩
      · intro y w2 hG hD K hK
        generalize hA : fillL y _ _ = A at hK ⊢
        simp only [fillL, Act.put, List.setIfInBounds_toArray, List.set_cons_zero, List.set_cons_succ, List.getD_cons_zero, List.getD_cons_succ, Is] at hA
        subst hA
        refine ite_yes (by rfl) ?_
        go_simp
        exact hK _ _ _ rfl (Grew.refl _) rfl
      refine ⟨?_, ?_⟩
      · intro y w2 hG hD K hK
        generalize hA : fillL y _ _ = A at hK ⊢
        simp only [fillL, Act.put, List.setIfInBounds_toArray, List.set_cons_zero, List.set_cons_succ, List.getD_cons_zero, List.getD_cons_succ, Is] at hA
        subst hA
        refine ite_yes (by rfl) ?_
        go_simp
        exact hK _ _ _ rfl (Grew.refl _) rfl
      refine ⟨?_, ?_⟩
      · intro y w2 hG hD K hK
        simp only [depsH, List.getD_cons_zero, List.getD_cons_succ, Is, and_true] at hD
        have h5 := hD.1
        have h6 := hD.2
        clear hD
        generalize hA : fillL y _ _ = A at hK ⊢
        simp only [fillL, Act.put, List.setIfInBounds_toArray, List.set_cons_zero, List.set_cons_succ, List.getD_cons_zero, List.getD_cons_succ, Is] at hA
        subst hA
        simp only [h5, h6] at hK ⊢
        clear h5 h6
        refine ite_yes (by rfl) ?_
        go_simp
        exact hK _ _ _ rfl (Grew.refl _) rfl
      refine ⟨?_, ?_⟩
      · intro y w2 hG hD K hK
        simp only [depsH, List.getD_cons_zero, List.getD_cons_succ, Is, and_true] at hD
        have h5 := hD.1
        have h6 := hD.2.1
        have h7 := hD.2.2
        clear hD
        have dcy := hG.cell cy
        generalize hA : fillL y _ _ = A at hK ⊢
        simp only [fillL, Act.put, List.setIfInBounds_toArray, List.set_cons_zero, List.set_cons_succ, List.getD_cons_zero, List.getD_cons_succ, Is] at hA
        subst hA
        simp only [h5, h6, h7] at hK ⊢
        clear h5 h6 h7
        refine ite_yes (by rfl) ?_
        go_simp
        exact hK _ _ _ rfl (Grew.refl _) rfl
      refine ⟨?_, ?_⟩
      · intro y w2 hG hD K hK
        simp only [depsH, List.getD_cons_zero, List.getD_cons_succ, Is, and_true] at hD
        have h5 := hD.1
        have h6 := hD.2.1
        have h7 := hD.2.2.1
        have h8 := hD.2.2.2
        clear hD
        generalize hA : fillL y _ _ = A at hK ⊢
        simp only [fillL, Act.put, List.setIfInBounds_toArray, List.set_cons_zero, List.set_cons_succ, List.getD_cons_zero, List.getD_cons_succ, Is] at hA
        subst hA
        simp only [h5, h6, h7, h8] at hK ⊢
        clear h5 h6 h7 h8
        refine ite_yes (by rfl) ?_
        go_simp
        exact hK _ _ _ rfl (Grew.refl _) rfl
      refine ⟨?_, ?_⟩
      · intro y w2 hG hD K hK
        simp only [depsH, List.getD_cons_zero, List.getD_cons_succ, Is, and_true] at hD
        have h0 := hD.1
        have h1 := hD.2.1
        have h2 := hD.2.2.1
        have h3 := hD.2.2.2.1
        have h4 := hD.2.2.2.2.1
        have h5 := hD.2.2.2.2.2.1
        have h6 := hD.2.2.2.2.2.2.1
        have h7 := hD.2.2.2.2.2.2.2.1
        have h8 := hD.2.2.2.2.2.2.2.2.1
        have h9 := hD.2.2.2.2.2.2.2.2.2
        clear hD
        generalize hA : fillL y _ _ = A at hK ⊢
        simp only [fillL, Act.put, List.setIfInBounds_toArray, List.set_cons_zero, List.set_cons_succ, List.getD_cons_zero, List.getD_cons_succ, Is] at hA
        subst hA
        simp only [h0, h1, h2, h3, h4, h5, h6, h7, h8, h9] at hK ⊢
        clear h0 h1 h2 h3 h4 h5 h6 h7 h8 h9
        refine ite_yes (by rfl) ?_
        go_simp
        refine (HCALL.out w2 (HGY.out.trans hG)).mono ?_
        rintro r w3 ⟨rfl, hg3⟩
        exact hK _ _ _ rfl hg3 rfl
      refine ⟨?_, ?_⟩
      · intro y w2 hG hD K hK
        simp only [depsH, List.getD_cons_zero, List.getD_cons_succ, Is, and_true] at hD
        have h0 := hD.1
        have h1 := hD.2.1
        have h2 := hD.2.2.1
        have h3 := hD.2.2.2.1
        have h4 := hD.2.2.2.2.1
        have h5 := hD.2.2.2.2.2.1
        have h6 := hD.2.2.2.2.2.2.1
        have h7 := hD.2.2.2.2.2.2.2.1
        have h8 := hD.2.2.2.2.2.2.2.2.1
        have h9 := hD.2.2.2.2.2.2.2.2.2.1
        have h10 := hD.2.2.2.2.2.2.2.2.2.2
        clear hD
        generalize hA : fillL y _ _ = A at hK ⊢
        simp only [fillL, Act.put, List.setIfInBounds_toArray, List.set_cons_zero, List.set_cons_succ, List.getD_cons_zero, List.getD_cons_succ, Is] at hA
        subst hA
        simp only [h0, h1, h2, h3, h4, h5, h6, h7, h8, h9, h10] at hK ⊢
        clear h0 h1 h2 h3 h4 h5 h6 h7 h8 h9 h10
        refine ite_yes (by rfl) ?_
        go_simp
        exact hK _ _ _ rfl (Grew.refl _) rfl
      refine ⟨?_, ?_⟩
      · intro y w2 hG hD K hK
        simp only [depsH, List.getD_cons_zero, List.getD_cons_succ, Is, and_true] at hD
        have h0 := hD.1
        have h1 := hD.2.1
        have h2 := hD.2.2.1
        have h3 := hD.2.2.2.1
        have h4 := hD.2.2.2.2.1
        have h5 := hD.2.2.2.2.2.1
        have h6 := hD.2.2.2.2.2.2.1
        have h7 := hD.2.2.2.2.2.2.2.1
        have h8 := hD.2.2.2.2.2.2.2.2.1
        have h9 := hD.2.2.2.2.2.2.2.2.2.1
        have h10 := hD.2.2.2.2.2.2.2.2.2.2.1
        have h11 := hD.2.2.2.2.2.2.2.2.2.2.2
        clear hD
        generalize hA : fillL y _ _ = A at hK ⊢
        simp only [fillL, Act.put, List.setIfInBounds_toArray, List.set_cons_zero, List.set_cons_succ, List.getD_cons_zero, List.getD_cons_succ, Is] at hA
        subst hA
        simp only [h0, h1, h2, h3, h4, h5, h6, h7, h8, h9, h10, h11] at hK ⊢
        clear h0 h1 h2 h3 h4 h5 h6 h7 h8 h9 h10 h11
        refine ite_yes (by rfl) ?_
        go_simp
        exact hK _ _ _ rfl (Grew.refl _) rfl
      refine ⟨?_, ?_⟩
      · intro y w2 hG hD K hK
        simp only [depsH, List.getD_cons_zero, List.getD_cons_succ, Is, and_true] at hD
        have h12 := hD.2.2.2.2.2.2.2.2.2.2.2.2
        clear hD
        generalize hA : fillL y _ _ = A at hK ⊢
        simp only [fillL, Act.put, List.setIfInBounds_toArray, List.set_cons_zero, List.set_cons_succ, List.getD_cons_zero, List.getD_cons_succ, Is] at hA
        subst hA
        simp only [h12] at hK ⊢
        clear h12
        refine ite_no (by rfl) ?_
        exact hK _ _ _ rfl (Grew.refl _) rfl
      refine ⟨?_, ?_⟩
      · intro y w2 hG hD K hK
        simp only [depsH, List.getD_cons_zero, List.getD_cons_succ, Is, and_true] at hD
        have h12 := hD.2.2.2.2.2.2.2.2.2.2.2.2.1
        clear hD
        generalize hA : fillL y _ _ = A at hK ⊢
        simp only [fillL, Act.put, List.setIfInBounds_toArray, List.set_cons_zero, List.set_cons_succ, List.getD_cons_zero, List.getD_cons_succ, Is] at hA
        subst hA
        simp only [h12] at hK ⊢
        clear h12
        refine ite_no (by rfl) ?_
        exact hK _ _ _ rfl (Grew.refl _) rfl
      refine ⟨?_, ?_⟩
      · intro y w2 hG hD K hK
        simp only [depsH, List.getD_cons_zero, List.getD_cons_succ, Is, and_true] at hD
        have h12 := hD.2.2.2.2.2.2.2.2.2.2.2.2.1
        clear hD
        generalize hA : fillL y _ _ = A at hK ⊢
        simp only [fillL, Act.put, List.setIfInBounds_toArray, List.set_cons_zero, List.set_cons_succ, List.getD_cons_zero, List.getD_cons_succ, Is] at hA
        subst hA
        simp only [h12] at hK ⊢
        clear h12
        refine ite_no (by rfl) ?_
        exact hK _ _ _ rfl (Grew.refl _) rfl
      refine ⟨?_, ?_⟩
      · intro y w2 hG hD K hK
        simp only [depsH, List.getD_cons_zero, List.getD_cons_succ, Is, and_true] at hD
        have h12 := hD.2.2.2.2.2.2.2.2.2.2.2.2.1
        have h15 := hD.2.2.2.2.2.2.2.2.2.2.2.2.2.2.2
        clear hD
        generalize hA : fillL y _ _ = A at hK ⊢
        simp only [fillL, Act.put, List.setIfInBounds_toArray, List.set_cons_zero, List.set_cons_succ, List.getD_cons_zero, List.getD_cons_succ, Is] at hA
        subst hA
        simp only [h12, h15] at hK ⊢
        clear h12 h15
        refine ite_no (by rfl) ?_
        exact hK _ _ _ rfl (Grew.refl _) trivial
      refine ⟨?_, ?_⟩
      · intro y w2 hG hD K hK
        simp only [depsH, List.getD_cons_zero, List.getD_cons_succ, Is, and_true] at hD
        have h12 := hD.2.2.2.2.2.2.2.2.2.2.2.2.1
        have h15 := hD.2.2.2.2.2.2.2.2.2.2.2.2.2.2.2
        clear hD
        generalize hA : fillL y _ _ = A at hK ⊢
        simp only [fillL, Act.put, List.setIfInBounds_toArray, List.set_cons_zero, List.set_cons_succ, List.getD_cons_zero, List.getD_cons_succ, Is] at hA
        subst hA
        simp only [h12, h15] at hK ⊢
        clear h12 h15
        refine ite_no (by rfl) ?_
        exact hK _ _ _ rfl (Grew.refl _) trivial
      refine ⟨?_, ?_⟩
      · intro y w2 hG hD K hK
        simp only [depsH, List.getD_cons_zero, List.getD_cons_succ, Is, and_true] at hD
        have h12 := hD.2.2.2.2.2.2.2.2.2.2.2.2.1
        have h15 := hD.2.2.2.2.2.2.2.2.2.2.2.2.2.2.2.1
        clear hD
        generalize hA : fillL y _ _ = A at hK ⊢
        simp only [fillL, Act.put, List.setIfInBounds_toArray, List.set_cons_zero, List.set_cons_succ, List.getD_cons_zero, List.getD_cons_succ, Is] at hA
        subst hA
        simp only [h12, h15] at hK ⊢
        clear h12 h15
        refine ite_no (by rfl) ?_
        exact hK _ _ _ rfl (Grew.refl _) trivial
      refine ⟨?_, ?_⟩
      · intro y w2 hG hD K hK
        simp only [depsH, List.getD_cons_zero, List.getD_cons_succ, Is, and_true] at hD
        have h12 := hD.2.2.2.2.2.2.2.2.2.2.2.2.1
        have h15 := hD.2.2.2.2.2.2.2.2.2.2.2.2.2.2.2.1
        clear hD
        generalize hA : fillL y _ _ = A at hK ⊢
        simp only [fillL, Act.put, List.setIfInBounds_toArray, List.set_cons_zero, List.set_cons_succ, List.getD_cons_zero, List.getD_cons_succ, Is] at hA
        subst hA
        simp only [h12, h15] at hK ⊢
        clear h12 h15
        refine ite_no (by rfl) ?_
        exact hK _ _ _ rfl (Grew.refl _) trivial
      refine ⟨?_, ?_⟩
      · intro y w2 hG hD K hK
        simp only [depsH, List.getD_cons_zero, List.getD_cons_succ, Is, and_true] at hD
        have h12 := hD.2.2.2.2.2.2.2.2.2.2.2.2.1
        have h15 := hD.2.2.2.2.2.2.2.2.2.2.2.2.2.2.2.1
        clear hD
        generalize hA : fillL y _ _ = A at hK ⊢
        simp only [fillL, Act.put, List.setIfInBounds_toArray, List.set_cons_zero, List.set_cons_succ, List.getD_cons_zero, List.getD_cons_succ, Is] at hA
        subst hA
        simp only [h12, h15] at hK ⊢
        clear h12 h15
        refine ite_no (by rfl) ?_
        exact hK _ _ _ rfl (Grew.refl _) trivial
      refine ⟨?_, ?_⟩
      · intro y w2 hG hD K hK
        simp only [depsH, List.getD_cons_zero, List.getD_cons_succ, Is, and_true] at hD
        have h12 := hD.2.2.2.2.2.2.2.2.2.2.2.2.1
        have h15 := hD.2.2.2.2.2.2.2.2.2.2.2.2.2.2.2
        clear hD
        generalize hA : fillL y _ _ = A at hK ⊢
        simp only [fillL, Act.put, List.setIfInBounds_toArray, List.set_cons_zero, List.set_cons_succ, List.getD_cons_zero, List.getD_cons_succ, Is] at hA
        subst hA
        simp only [h12, h15] at hK ⊢
        clear h12 h15
        refine ite_no (by rfl) ?_
        exact hK _ _ _ rfl (Grew.refl _) trivial
      refine ⟨?_, ?_⟩
      · intro y w2 hG hD K hK
        simp only [depsH, List.getD_cons_zero, List.getD_cons_succ, Is, and_true] at hD
        have h12 := hD.2.2.2.2.2.2.2.2.2.2.2.2.1
        have h15 := hD.2.2.2.2.2.2.2.2.2.2.2.2.2.2.2
        clear hD
        generalize hA : fillL y _ _ = A at hK ⊢
        simp only [fillL, Act.put, List.setIfInBounds_toArray, List.set_cons_zero, List.set_cons_succ, List.getD_cons_zero, List.getD_cons_succ, Is] at hA
        subst hA
        simp only [h12, h15] at hK ⊢
        clear h12 h15
        refine ite_no (by rfl) ?_
        exact hK _ _ _ rfl (Grew.refl _) trivial
      refine ⟨?_, ?_⟩
      · intro y w2 hG hD K hK
        simp only [depsH, List.getD_cons_zero, List.getD_cons_succ, Is, and_true] at hD
        have h12 := hD.2.2.2.2.2.2.2.2.2.2.2.2.1
        have h15 := hD.2.2.2.2.2.2.2.2.2.2.2.2.2.2.2.1
        clear hD
        generalize hA : fillL y _ _ = A at hK ⊢
        simp only [fillL, Act.put, List.setIfInBounds_toArray, List.set_cons_zero, List.set_cons_succ, List.getD_cons_zero, List.getD_cons_succ, Is] at hA
        subst hA
        simp only [h12, h15] at hK ⊢
        clear h12 h15
        refine ite_no (by rfl) ?_
        exact hK _ _ _ rfl (Grew.refl _) trivial
      refine ⟨?_, ?_⟩
      · intro y w2 hG hD K hK
        simp only [depsH, List.getD_cons_zero, List.getD_cons_succ, Is, and_true] at hD
        have h12 := hD.2.2.2.2.2.2.2.2.2.2.2.2.1
        have h15 := hD.2.2.2.2.2.2.2.2.2.2.2.2.2.2.2.1
        clear hD
        generalize hA : fillL y _ _ = A at hK ⊢
        simp only [fillL, Act.put, List.setIfInBounds_toArray, List.set_cons_zero, List.set_cons_succ, List.getD_cons_zero, List.getD_cons_succ, Is] at hA
        subst hA
        simp only [h12, h15] at hK ⊢
        clear h12 h15
        refine ite_no (by rfl) ?_
        exact hK _ _ _ rfl (Grew.refl _) trivial
      refine ⟨?_, ?_⟩
      · intro y w2 hG hD K hK
        simp only [depsH, List.getD_cons_zero, List.getD_cons_succ, Is, and_true] at hD
        have h12 := hD.2.2.2.2.2.2.2.2.2.2.2.2.1
        have h15 := hD.2.2.2.2.2.2.2.2.2.2.2.2.2.2.2.1
        clear hD
        generalize hA : fillL y _ _ = A at hK ⊢
        simp only [fillL, Act.put, List.setIfInBounds_toArray, List.set_cons_zero, List.set_cons_succ, List.getD_cons_zero, List.getD_cons_succ, Is] at hA
        subst hA
        simp only [h12, h15] at hK ⊢
        clear h12 h15
        refine ite_no (by rfl) ?_
        exact hK _ _ _ rfl (Grew.refl _) trivial
      refine ⟨?_, ?_⟩
      · intro y w2 hG hD K hK
        simp only [depsH, List.getD_cons_zero, List.getD_cons_succ, Is, and_true] at hD
        have h12 := hD.2.2.2.2.2.2.2.2.2.2.2.2.1
        have h15 := hD.2.2.2.2.2.2.2.2.2.2.2.2.2.2.2.1
        clear hD
        generalize hA : fillL y _ _ = A at hK ⊢
        simp only [fillL, Act.put, List.setIfInBounds_toArray, List.set_cons_zero, List.set_cons_succ, List.getD_cons_zero, List.getD_cons_succ, Is] at hA
        subst hA
        simp only [h12, h15] at hK ⊢
        clear h12 h15
        refine ite_no (by rfl) ?_
        exact hK _ _ _ rfl (Grew.refl _) trivial
      refine ⟨?_, ?_⟩
      · intro y w2 hG hD K hK
        simp only [depsH, List.getD_cons_zero, List.getD_cons_succ, Is, and_true] at hD
        have h12 := hD.2.2.2.2.2.2.2.2.2.2.2.2.1
        clear hD
        generalize hA : fillL y _ _ = A at hK ⊢
        simp only [fillL, Act.put, List.setIfInBounds_toArray, List.set_cons_zero, List.set_cons_succ, List.getD_cons_zero, List.getD_cons_succ, Is] at hA
        subst hA
        simp only [h12] at hK ⊢
        clear h12
        refine ite_no (by rfl) ?_
        exact hK _ _ _ rfl (Grew.refl _) trivial
      refine ⟨?_, ?_⟩
      · intro y w2 hG hD K hK
        simp only [depsH, List.getD_cons_zero, List.getD_cons_succ, Is, and_true] at hD
        have h12 := hD.2.2.2.2.2.2.2.2.2.2.2.2.1
        clear hD
        generalize hA : fillL y _ _ = A at hK ⊢
        simp only [fillL, Act.put, List.setIfInBounds_toArray, List.set_cons_zero, List.set_cons_succ, List.getD_cons_zero, List.getD_cons_succ, Is] at hA
        subst hA
        simp only [h12] at hK ⊢
        clear h12
        refine ite_yes (by rfl) ?_
        go_simp
        exact hK _ _ _ rfl (Grew.refl _) rfl
      trivial
    by_cases hk0 : kk = 0
    · have HK0 := Lib.hid hk0
      have hdi : ¬ (0 : Int) < (kk : Int) := by omega
      have hdb : decide ((0 : Int) < (kk : Int)) = false := decide_eq_false hdi
      have hdn : decide (0 < kk) = false := decide_eq_false (by omega)
      clear hk0
      refine wp_region_tables Grew [[], [], [], [], [2, 3], [], [], [5, 6], [5, 6, 7], [5, 6, 7, 8], [0, 1, 2, 3, 4, 5, 6, 7, 8, 9], [0, 1, 2, 3, 4, 5, 6, 7, 8, 9, 10], [0, 1, 2, 3, 4, 5, 6, 7, 8, 9, 10, 11], [0, 1, 2, 3, 4, 5, 6, 7, 8, 9, 10, 11, 12], [0, 1, 2, 3, 4, 5, 6, 7, 8, 9, 10, 11, 12, 13], [0, 1, 2, 3, 4, 5, 6, 7, 8, 9, 10, 11, 12, 13, 14], [0, 1, 2, 3, 4, 5, 6, 7, 8, 9, 10, 11, 12, 13, 14, 15], [0, 1, 2, 3, 4, 5, 6, 7, 8, 9, 10, 11, 12, 13, 14, 15], [0, 1, 2, 3, 4, 5, 6, 7, 8, 9, 10, 11, 12, 13, 14, 15, 17], [0, 1, 2, 3, 4, 5, 6, 7, 8, 9, 10, 11, 12, 13, 14, 15, 16, 17, 18], [0, 1, 2, 3, 4, 5, 6, 7, 8, 9, 10, 11, 12, 13, 14, 15, 16, 17, 18, 19], [0, 1, 2, 3, 4, 5, 6, 7, 8, 9, 10, 11, 12, 13, 14, 15], [0, 1, 2, 3, 4, 5, 6, 7, 8, 9, 10, 11, 12, 13, 14, 15], [0, 1, 2, 3, 4, 5, 6, 7, 8, 9, 10, 11, 12, 13, 14, 15, 21, 22], [0, 1, 2, 3, 4, 5, 6, 7, 8, 9, 10, 11, 12, 13, 14, 15, 21, 22, 23], [0, 1, 2, 3, 4, 5, 6, 7, 8, 9, 10, 11, 12, 13, 14, 15, 16, 17, 18, 19, 20, 21, 22, 23, 24], [0, 1, 2, 3, 4, 5, 6, 7, 8, 9, 10, 11, 12, 13, 14, 15, 16, 17, 18, 19, 20, 21, 22, 23, 24, 25], [0, 1, 2, 3, 4, 5, 6, 7, 8, 9, 10, 11, 12, 13, 14, 15, 16, 17, 18, 19, 20, 21, 22, 23, 24, 25, 26], [0, 1, 2, 3, 4, 5, 6, 7, 8, 9, 10, 11, 12, 13, 14, 15, 16, 17, 18, 19, 20, 21, 22, 23, 24, 25, 26, 27]] [[(106, 1), (107, 2), (108, 3), (109, 4), (110, 5), (111, 6), (112, 7), (113, 8), (114, 9)], [(105, 0), (107, 2), (108, 3), (109, 4), (110, 5), (111, 6), (112, 7), (113, 8), (114, 9)], [(105, 0), (106, 1), (108, 3), (110, 5), (111, 6), (112, 7), (113, 8), (114, 9)], [(105, 0), (106, 1), (107, 2), (110, 5), (111, 6), (112, 7), (113, 8), (114, 9)], [(105, 0), (106, 1), (107, 2), (108, 3), (110, 5), (111, 6), (112, 7), (113, 8), (114, 9)], [(105, 0), (106, 1), (107, 2), (108, 3), (109, 4), (111, 6)], [(105, 0), (106, 1), (107, 2), (108, 3), (109, 4), (110, 5)], [(105, 0), (106, 1), (107, 2), (108, 3), (109, 4), (110, 5), (111, 6)], [(105, 0), (106, 1), (107, 2), (108, 3), (109, 4), (110, 5), (111, 6), (112, 7)], [(105, 0), (106, 1), (107, 2), (108, 3), (109, 4), (110, 5), (111, 6), (112, 7), (113, 8)], [(105, 0), (106, 1), (107, 2), (108, 3), (109, 4), (110, 5), (111, 6), (112, 7), (113, 8), (114, 9)], [(105, 0), (106, 1), (107, 2), (108, 3), (109, 4), (110, 5), (111, 6), (112, 7), (113, 8), (114, 9), (115, 10)], [(105, 0), (106, 1), (107, 2), (108, 3), (109, 4), (110, 5), (111, 6), (112, 7), (113, 8), (114, 9), (115, 10), (116, 11)], [(105, 0), (106, 1), (107, 2), (108, 3), (109, 4), (110, 5), (111, 6), (112, 7), (113, 8), (114, 9), (115, 10), (116, 11), (117, 12)], [(105, 0), (106, 1), (107, 2), (108, 3), (109, 4), (110, 5), (111, 6), (112, 7), (113, 8), (114, 9), (115, 10), (116, 11), (117, 12), (118, 13)], [(105, 0), (106, 1), (107, 2), (108, 3), (109, 4), (110, 5), (111, 6), (112, 7), (113, 8), (114, 9), (115, 10), (116, 11), (117, 12), (118, 13), (119, 14)], [(105, 0), (106, 1), (107, 2), (108, 3), (109, 4), (110, 5), (111, 6), (112, 7), (113, 8), (114, 9), (115, 10), (116, 11), (117, 12), (118, 13), (119, 14), (120, 15), (122, 17), (123, 18), (126, 21), (127, 22), (128, 23), (129, 24)], [(105, 0), (106, 1), (107, 2), (108, 3), (109, 4), (110, 5), (111, 6), (112, 7), (113, 8), (114, 9), (115, 10), (116, 11), (117, 12), (118, 13), (119, 14), (120, 15), (121, 16), (126, 21), (127, 22), (128, 23), (129, 24)], [(105, 0), (106, 1), (107, 2), (108, 3), (109, 4), (110, 5), (111, 6), (112, 7), (113, 8), (114, 9), (115, 10), (116, 11), (117, 12), (118, 13), (119, 14), (120, 15), (121, 16), (122, 17), (126, 21), (127, 22), (128, 23), (129, 24)], [(105, 0), (106, 1), (107, 2), (108, 3), (109, 4), (110, 5), (111, 6), (112, 7), (113, 8), (114, 9), (115, 10), (116, 11), (117, 12), (118, 13), (119, 14), (120, 15), (121, 16), (122, 17), (123, 18), (126, 21), (127, 22), (128, 23), (129, 24)], [(105, 0), (106, 1), (107, 2), (108, 3), (109, 4), (110, 5), (111, 6), (112, 7), (113, 8), (114, 9), (115, 10), (116, 11), (117, 12), (118, 13), (119, 14), (120, 15), (121, 16), (122, 17), (123, 18), (124, 19), (126, 21), (127, 22), (128, 23), (129, 24)], [(105, 0), (106, 1), (107, 2), (108, 3), (109, 4), (110, 5), (111, 6), (112, 7), (113, 8), (114, 9), (115, 10), (116, 11), (117, 12), (118, 13), (119, 14), (120, 15), (121, 16), (122, 17), (123, 18), (124, 19), (125, 20), (127, 22)], [(105, 0), (106, 1), (107, 2), (108, 3), (109, 4), (110, 5), (111, 6), (112, 7), (113, 8), (114, 9), (115, 10), (116, 11), (117, 12), (118, 13), (119, 14), (120, 15), (121, 16), (122, 17), (123, 18), (124, 19), (125, 20), (126, 21)], [(105, 0), (106, 1), (107, 2), (108, 3), (109, 4), (110, 5), (111, 6), (112, 7), (113, 8), (114, 9), (115, 10), (116, 11), (117, 12), (118, 13), (119, 14), (120, 15), (121, 16), (122, 17), (123, 18), (124, 19), (125, 20), (126, 21), (127, 22)], [(105, 0), (106, 1), (107, 2), (108, 3), (109, 4), (110, 5), (111, 6), (112, 7), (113, 8), (114, 9), (115, 10), (116, 11), (117, 12), (118, 13), (119, 14), (120, 15), (121, 16), (122, 17), (123, 18), (124, 19), (125, 20), (126, 21), (127, 22), (128, 23)], [(105, 0), (106, 1), (107, 2), (108, 3), (109, 4), (110, 5), (111, 6), (112, 7), (113, 8), (114, 9), (115, 10), (116, 11), (117, 12), (118, 13), (119, 14), (120, 15), (121, 16), (122, 17), (123, 18), (124, 19), (125, 20), (126, 21), (127, 22), (128, 23), (129, 24)], [(105, 0), (106, 1), (107, 2), (108, 3), (109, 4), (110, 5), (111, 6), (112, 7), (113, 8), (114, 9), (115, 10), (116, 11), (117, 12), (118, 13), (119, 14), (120, 15), (121, 16), (122, 17), (123, 18), (124, 19), (125, 20), (126, 21), (127, 22), (128, 23), (129, 24), (130, 25)], [(105, 0), (106, 1), (107, 2), (108, 3), (109, 4), (110, 5), (111, 6), (112, 7), (113, 8), (114, 9), (115, 10), (116, 11), (117, 12), (118, 13), (119, 14), (120, 15), (121, 16), (122, 17), (123, 18), (124, 19), (125, 20), (126, 21), (127, 22), (128, 23), (129, 24), (130, 25), (131, 26)], [(105, 0), (106, 1), (107, 2), (108, 3), (109, 4), (110, 5), (111, 6), (112, 7), (113, 8), (114, 9), (115, 10), (116, 11), (117, 12), (118, 13), (119, 14), (120, 15), (121, 16), (122, 17), (123, 18), (124, 19), (125, 20), (126, 21), (127, 22), (128, 23), (129, 24), (130, 25), (131, 26), (132, 27)]] [(105, 0), (106, 1), (107, 2), (108, 3), (109, 4), (110, 5), (111, 6), (112, 7), (113, 8), (114, 9), (115, 10), (116, 11), (117, 12), (118, 13), (119, 14), (120, 15), (121, 16), (122, 17), (123, 18), (124, 19), (125, 20), (126, 21), (127, 22), (128, 23), (129, 24), (130, 25), (131, 26), (132, 27), (133, 28)]
        [Is (.slice da d.length dc), Is (.agg #[.int .i64 (at_ + (kk : Int) * wide), .int .i64 wide, .int .i64 4, .int .i64 wide]), Is (.int .i64 at_), Is (.int .i64 wide), Is (.int .i64 (at_ - wide)), Is (.slice (some ⟨b1, o1, none⟩) l.length c4), Is (.int .i64 ((kk : Int))), Is (.pointer (some ⟨b1, o1 + kk, none⟩)), Is (.string y), Is (.agg #[.int .i64 5, .int .i64 0, .int .u64 0, .string y, .slice none 0 0, .slice none 0 0]), Is (.bool true), Is (.bool false), Is (.bool false), Is (.int .i64 ((kk : Int))), Is (.bool false), Is (.bool false), AnyV, AnyV, AnyV, AnyV, AnyV, AnyV, AnyV, AnyV, AnyV, AnyV, AnyV, Is (.bool false), Is (.bool false)]
        (by kernel_rfl) Grew.trans Grew.refl (Grew.refl _).drew (by kernel_rfl) ⟨is_st, is_st, is_st, is_st, is_st, is_st, is_st, is_st, is_st, is_st, is_st, is_st, is_st, is_st, is_st, is_st, AnyV.st, AnyV.st, AnyV.st, AnyV.st, AnyV.st, AnyV.st, AnyV.st, AnyV.st, AnyV.st, AnyV.st, AnyV.st, is_st, is_st, trivial⟩ ?_ rfl ?_
      rotate_left
      · intro y w2 hG hF
        simp only [factsH, Is, and_true, Nat.reduceAdd] at hF
        have hlast := hF.2.2.2.2.2.2.2.2.2.2.2.2.2.2.2.2.2.2.2.2.2.2.2.2.2.2.2.2
        clear hF
        simp only [fillL, Act.put, List.setIfInBounds_toArray, List.set_cons_zero, List.set_cons_succ, List.getD_cons_zero, List.getD_cons_succ, hlast]
        have HG6 := Lib.hid (HL.out.1.trans (HGY.out.trans hG))
        clear hG hlast
        go_wp2_with fail
        go_roundw
        case rel =>
          refine ⟨kk + 1, by omega, by go_num, ?_⟩
          show _ ∧ _
          refine ⟨HG6.out, fun i q hi hq => ?_, fun i a b hi ha hb => ?_⟩
          · by_cases h : i < kk
            · exact HL.out.2.1 i q h hq
            · have e : i = kk := by omega
              subst e
              have h2 := HY.out
              rw [hq] at h2
              injection h2 with h2
              rw [h2]; exact HSB.out
          · exact absurd hi (by have := HK0.out; omega)
        case measure => simp [intOf]; omega
      refine ⟨?_, ?_⟩
      · intro y w2 hG hD K hK
        generalize hA : fillL y _ _ = A at hK ⊢
        simp only [fillL, Act.put, List.setIfInBounds_toArray, List.set_cons_zero, List.set_cons_succ, List.getD_cons_zero, List.getD_cons_succ, Is] at hA
        subst hA
        refine ite_yes (by rfl) ?_
        go_simp
        exact hK _ _ _ rfl (Grew.refl _) rfl
      refine ⟨?_, ?_⟩
      · intro y w2 hG hD K hK
        have dg0 := hG.cell g0
        have dg1 := hG.cell g1
        have dg2 := hG.cell g2
        have dg3 := hG.cell g3
        generalize hA : fillL y _ _ = A at hK ⊢
        simp only [fillL, Act.put, List.setIfInBounds_toArray, List.set_cons_zero, List.set_cons_succ, List.getD_cons_zero, List.getD_cons_succ, Is] at hA
        subst hA
        refine ite_yes (by rfl) ?_
        go_simp
        exact hK _ _ _ rfl (Grew.refl _) rfl
      refine ⟨?_, ?_⟩
      · intro y w2 hG hD K hK
        generalize hA : fillL y _ _ = A at hK ⊢
        simp only [fillL, Act.put, List.setIfInBounds_toArray, List.set_cons_zero, List.set_cons_succ, List.getD_cons_zero, List.getD_cons_succ, Is] at hA
        subst hA
        refine ite_yes (by rfl) ?_
        go_simp
        exact hK _ _ _ rfl (Grew.refl _) rfl
      refine ⟨?_, ?_⟩
      · intro y w2 hG hD K hK
        generalize hA : fillL y _ _ = A at hK ⊢
        simp only [fillL, Act.put, List.setIfInBounds_toArray, List.set_cons_zero, List.set_cons_succ, List.getD_cons_zero, List.getD_cons_succ, Is] at hA
        subst hA
        refine ite_yes (by rfl) ?_
        go_simp
        exact hK _ _ _ rfl (Grew.refl _) rfl
      refine ⟨?_, ?_⟩
      · intro y w2 hG hD K hK
        simp only [depsH, List.getD_cons_zero, List.getD_cons_succ, Is, and_true] at hD
        have h2 := hD.1
        have h3 := hD.2
        clear hD
        generalize hA : fillL y _ _ = A at hK ⊢
        simp only [fillL, Act.put, List.setIfInBounds_toArray, List.set_cons_zero, List.set_cons_succ, List.getD_cons_zero, List.getD_cons_succ, Is] at hA
        subst hA
        simp only [h2, h3] at hK ⊢
        clear h2 h3
        refine ite_yes (by rfl) ?_
        go_simp
        exact hK _ _ _ rfl (Grew.refl _) rfl
      refine ⟨?_, ?_⟩
      · intro y w2 hG hD K hK
        generalize hA : fillL y _ _ = A at hK ⊢
        simp only [fillL, Act.put, List.setIfInBounds_toArray, List.set_cons_zero, List.set_cons_succ, List.getD_cons_zero, List.getD_cons_succ, Is] at hA
        subst hA
        refine ite_yes (by rfl) ?_
        go_simp
        exact hK _ _ _ rfl (Grew.refl _) rfl
      refine ⟨?_, ?_⟩
      · intro y w2 hG hD K hK
        generalize hA : fillL y _ _ = A at hK ⊢
        simp only [fillL, Act.put, List.setIfInBounds_toArray, List.set_cons_zero, List.set_cons_succ, List.getD_cons_zero, List.getD_cons_succ, Is] at hA
        subst hA
        refine ite_yes (by rfl) ?_
        go_simp
        exact hK _ _ _ rfl (Grew.refl _) rfl
      refine ⟨?_, ?_⟩
      · intro y w2 hG hD K hK
        simp only [depsH, List.getD_cons_zero, List.getD_cons_succ, Is, and_true] at hD
        have h5 := hD.1
        have h6 := hD.2
        clear hD
        generalize hA : fillL y _ _ = A at hK ⊢
        simp only [fillL, Act.put, List.setIfInBounds_toArray, List.set_cons_zero, List.set_cons_succ, List.getD_cons_zero, List.getD_cons_succ, Is] at hA
        subst hA
        simp only [h5, h6] at hK ⊢
        clear h5 h6
        refine ite_yes (by rfl) ?_
        go_simp
        exact hK _ _ _ rfl (Grew.refl _) rfl
      refine ⟨?_, ?_⟩
      · intro y w2 hG hD K hK
        simp only [depsH, List.getD_cons_zero, List.getD_cons_succ, Is, and_true] at hD
        have h5 := hD.1
        have h6 := hD.2.1
        have h7 := hD.2.2
        clear hD
        have dcy := hG.cell cy
        generalize hA : fillL y _ _ = A at hK ⊢
        simp only [fillL, Act.put, List.setIfInBounds_toArray, List.set_cons_zero, List.set_cons_succ, List.getD_cons_zero, List.getD_cons_succ, Is] at hA
        subst hA
        simp only [h5, h6, h7] at hK ⊢
        clear h5 h6 h7
        refine ite_yes (by rfl) ?_
        go_simp
        exact hK _ _ _ rfl (Grew.refl _) rfl
      refine ⟨?_, ?_⟩
      · intro y w2 hG hD K hK
        simp only [depsH, List.getD_cons_zero, List.getD_cons_succ, Is, and_true] at hD
        have h5 := hD.1
        have h6 := hD.2.1
        have h7 := hD.2.2.1
        have h8 := hD.2.2.2
        clear hD
        generalize hA : fillL y _ _ = A at hK ⊢
        simp only [fillL, Act.put, List.setIfInBounds_toArray, List.set_cons_zero, List.set_cons_succ, List.getD_cons_zero, List.getD_cons_succ, Is] at hA
        subst hA
        simp only [h5, h6, h7, h8] at hK ⊢
        clear h5 h6 h7 h8
        refine ite_yes (by rfl) ?_
        go_simp
        exact hK _ _ _ rfl (Grew.refl _) rfl
      refine ⟨?_, ?_⟩
      · intro y w2 hG hD K hK
        simp only [depsH, List.getD_cons_zero, List.getD_cons_succ, Is, and_true] at hD
        have h0 := hD.1
        have h1 := hD.2.1
        have h2 := hD.2.2.1
        have h3 := hD.2.2.2.1
        have h4 := hD.2.2.2.2.1
        have h5 := hD.2.2.2.2.2.1
        have h6 := hD.2.2.2.2.2.2.1
        have h7 := hD.2.2.2.2.2.2.2.1
        have h8 := hD.2.2.2.2.2.2.2.2.1
        have h9 := hD.2.2.2.2.2.2.2.2.2
        clear hD
        generalize hA : fillL y _ _ = A at hK ⊢
        simp only [fillL, Act.put, List.setIfInBounds_toArray, List.set_cons_zero, List.set_cons_succ, List.getD_cons_zero, List.getD_cons_succ, Is] at hA
        subst hA
        simp only [h0, h1, h2, h3, h4, h5, h6, h7, h8, h9] at hK ⊢
        clear h0 h1 h2 h3 h4 h5 h6 h7 h8 h9
        refine ite_yes (by rfl) ?_
        go_simp
        refine (HCALL.out w2 (HGY.out.trans hG)).mono ?_
        rintro r w3 ⟨rfl, hg3⟩
        exact hK _ _ _ rfl hg3 rfl
      refine ⟨?_, ?_⟩
      · intro y w2 hG hD K hK
        simp only [depsH, List.getD_cons_zero, List.getD_cons_succ, Is, and_true] at hD
        have h0 := hD.1
        have h1 := hD.2.1
        have h2 := hD.2.2.1
        have h3 := hD.2.2.2.1
        have h4 := hD.2.2.2.2.1
        have h5 := hD.2.2.2.2.2.1
        have h6 := hD.2.2.2.2.2.2.1
        have h7 := hD.2.2.2.2.2.2.2.1
        have h8 := hD.2.2.2.2.2.2.2.2.1
        have h9 := hD.2.2.2.2.2.2.2.2.2.1
        have h10 := hD.2.2.2.2.2.2.2.2.2.2
        clear hD
        generalize hA : fillL y _ _ = A at hK ⊢
        simp only [fillL, Act.put, List.setIfInBounds_toArray, List.set_cons_zero, List.set_cons_succ, List.getD_cons_zero, List.getD_cons_succ, Is] at hA
        subst hA
        simp only [h0, h1, h2, h3, h4, h5, h6, h7, h8, h9, h10] at hK ⊢
        clear h0 h1 h2 h3 h4 h5 h6 h7 h8 h9 h10
        refine ite_yes (by rfl) ?_
        go_simp
        exact hK _ _ _ rfl (Grew.refl _) rfl
      refine ⟨?_, ?_⟩
      · intro y w2 hG hD K hK
        simp only [depsH, List.getD_cons_zero, List.getD_cons_succ, Is, and_true] at hD
        have h0 := hD.1
        have h1 := hD.2.1
        have h2 := hD.2.2.1
        have h3 := hD.2.2.2.1
        have h4 := hD.2.2.2.2.1
        have h5 := hD.2.2.2.2.2.1
        have h6 := hD.2.2.2.2.2.2.1
        have h7 := hD.2.2.2.2.2.2.2.1
        have h8 := hD.2.2.2.2.2.2.2.2.1
        have h9 := hD.2.2.2.2.2.2.2.2.2.1
        have h10 := hD.2.2.2.2.2.2.2.2.2.2.1
        have h11 := hD.2.2.2.2.2.2.2.2.2.2.2
        clear hD
        generalize hA : fillL y _ _ = A at hK ⊢
        simp only [fillL, Act.put, List.setIfInBounds_toArray, List.set_cons_zero, List.set_cons_succ, List.getD_cons_zero, List.getD_cons_succ, Is] at hA
        subst hA
        simp only [h0, h1, h2, h3, h4, h5, h6, h7, h8, h9, h10, h11] at hK ⊢
        clear h0 h1 h2 h3 h4 h5 h6 h7 h8 h9 h10 h11
        refine ite_yes (by rfl) ?_
        go_simp
        exact hK _ _ _ rfl (Grew.refl _) rfl
      refine ⟨?_, ?_⟩
      · intro y w2 hG hD K hK
        simp only [depsH, List.getD_cons_zero, List.getD_cons_succ, Is, and_true] at hD
        have h0 := hD.1
        have h1 := hD.2.1
        have h2 := hD.2.2.1
        have h3 := hD.2.2.2.1
        have h4 := hD.2.2.2.2.1
        have h5 := hD.2.2.2.2.2.1
        have h6 := hD.2.2.2.2.2.2.1
        have h7 := hD.2.2.2.2.2.2.2.1
        have h8 := hD.2.2.2.2.2.2.2.2.1
        have h9 := hD.2.2.2.2.2.2.2.2.2.1
        have h10 := hD.2.2.2.2.2.2.2.2.2.2.1
        have h11 := hD.2.2.2.2.2.2.2.2.2.2.2.1
        have h12 := hD.2.2.2.2.2.2.2.2.2.2.2.2
        clear hD
        generalize hA : fillL y _ _ = A at hK ⊢
        simp only [fillL, Act.put, List.setIfInBounds_toArray, List.set_cons_zero, List.set_cons_succ, List.getD_cons_zero, List.getD_cons_succ, Is] at hA
        subst hA
        simp only [h0, h1, h2, h3, h4, h5, h6, h7, h8, h9, h10, h11, h12] at hK ⊢
        clear h0 h1 h2 h3 h4 h5 h6 h7 h8 h9 h10 h11 h12
        refine ite_yes (by rfl) ?_
        go_simp
        exact hK _ _ _ rfl (Grew.refl _) rfl
      refine ⟨?_, ?_⟩
      · intro y w2 hG hD K hK
        simp only [depsH, List.getD_cons_zero, List.getD_cons_succ, Is, and_true] at hD
        have h0 := hD.1
        have h1 := hD.2.1
        have h2 := hD.2.2.1
        have h3 := hD.2.2.2.1
        have h4 := hD.2.2.2.2.1
        have h5 := hD.2.2.2.2.2.1
        have h6 := hD.2.2.2.2.2.2.1
        have h7 := hD.2.2.2.2.2.2.2.1
        have h8 := hD.2.2.2.2.2.2.2.2.1
        have h9 := hD.2.2.2.2.2.2.2.2.2.1
        have h10 := hD.2.2.2.2.2.2.2.2.2.2.1
        have h11 := hD.2.2.2.2.2.2.2.2.2.2.2.1
        have h12 := hD.2.2.2.2.2.2.2.2.2.2.2.2.1
        have h13 := hD.2.2.2.2.2.2.2.2.2.2.2.2.2
        clear hD
        generalize hA : fillL y _ _ = A at hK ⊢
        simp only [fillL, Act.put, List.setIfInBounds_toArray, List.set_cons_zero, List.set_cons_succ, List.getD_cons_zero, List.getD_cons_succ, Is] at hA
        subst hA
        simp only [h0, h1, h2, h3, h4, h5, h6, h7, h8, h9, h10, h11, h12, h13] at hK ⊢
        clear h0 h1 h2 h3 h4 h5 h6 h7 h8 h9 h10 h11 h12 h13
        refine ite_yes (by rfl) ?_
        go_simp
        exact hK _ _ _ rfl (Grew.refl _) (by first | rfl | exact congrArg Value.bool hdb | exact congrArg Value.bool hdn)
      refine ⟨?_, ?_⟩
      · intro y w2 hG hD K hK
        simp only [depsH, List.getD_cons_zero, List.getD_cons_succ, Is, and_true] at hD
        have h0 := hD.1
        have h1 := hD.2.1
        have h2 := hD.2.2.1
        have h3 := hD.2.2.2.1
        have h4 := hD.2.2.2.2.1
        have h5 := hD.2.2.2.2.2.1
        have h6 := hD.2.2.2.2.2.2.1
        have h7 := hD.2.2.2.2.2.2.2.1
        have h8 := hD.2.2.2.2.2.2.2.2.1
        have h9 := hD.2.2.2.2.2.2.2.2.2.1
        have h10 := hD.2.2.2.2.2.2.2.2.2.2.1
        have h11 := hD.2.2.2.2.2.2.2.2.2.2.2.1
        have h12 := hD.2.2.2.2.2.2.2.2.2.2.2.2.1
        have h13 := hD.2.2.2.2.2.2.2.2.2.2.2.2.2.1
        have h14 := hD.2.2.2.2.2.2.2.2.2.2.2.2.2.2
        clear hD
        generalize hA : fillL y _ _ = A at hK ⊢
        simp only [fillL, Act.put, List.setIfInBounds_toArray, List.set_cons_zero, List.set_cons_succ, List.getD_cons_zero, List.getD_cons_succ, Is] at hA
        subst hA
        simp only [h0, h1, h2, h3, h4, h5, h6, h7, h8, h9, h10, h11, h12, h13, h14] at hK ⊢
        clear h0 h1 h2 h3 h4 h5 h6 h7 h8 h9 h10 h11 h12 h13 h14
        refine ite_yes (by rfl) ?_
        go_simp
        exact hK _ _ _ rfl (Grew.refl _) rfl
      refine ⟨?_, ?_⟩
      · intro y w2 hG hD K hK
        simp only [depsH, List.getD_cons_zero, List.getD_cons_succ, Is, and_true] at hD
        have h12 := hD.2.2.2.2.2.2.2.2.2.2.2.2.1
        have h15 := hD.2.2.2.2.2.2.2.2.2.2.2.2.2.2.2
        clear hD
        generalize hA : fillL y _ _ = A at hK ⊢
        simp only [fillL, Act.put, List.setIfInBounds_toArray, List.set_cons_zero, List.set_cons_succ, List.getD_cons_zero, List.getD_cons_succ, Is] at hA
        subst hA
        simp only [h12, h15] at hK ⊢
        clear h12 h15
        refine ite_no (by rfl) ?_
        exact hK _ _ _ rfl (Grew.refl _) trivial
      refine ⟨?_, ?_⟩
      · intro y w2 hG hD K hK
        simp only [depsH, List.getD_cons_zero, List.getD_cons_succ, Is, and_true] at hD
        have h12 := hD.2.2.2.2.2.2.2.2.2.2.2.2.1
        have h15 := hD.2.2.2.2.2.2.2.2.2.2.2.2.2.2.2
        clear hD
        generalize hA : fillL y _ _ = A at hK ⊢
        simp only [fillL, Act.put, List.setIfInBounds_toArray, List.set_cons_zero, List.set_cons_succ, List.getD_cons_zero, List.getD_cons_succ, Is] at hA
        subst hA
        simp only [h12, h15] at hK ⊢
        clear h12 h15
        refine ite_no (by rfl) ?_
        exact hK _ _ _ rfl (Grew.refl _) trivial
      refine ⟨?_, ?_⟩
      · intro y w2 hG hD K hK
        simp only [depsH, List.getD_cons_zero, List.getD_cons_succ, Is, and_true] at hD
        have h12 := hD.2.2.2.2.2.2.2.2.2.2.2.2.1
        have h15 := hD.2.2.2.2.2.2.2.2.2.2.2.2.2.2.2.1
        clear hD
        generalize hA : fillL y _ _ = A at hK ⊢
        simp only [fillL, Act.put, List.setIfInBounds_toArray, List.set_cons_zero, List.set_cons_succ, List.getD_cons_zero, List.getD_cons_succ, Is] at hA
        subst hA
        simp only [h12, h15] at hK ⊢
        clear h12 h15
        refine ite_no (by rfl) ?_
        exact hK _ _ _ rfl (Grew.refl _) trivial
      refine ⟨?_, ?_⟩
      · intro y w2 hG hD K hK
        simp only [depsH, List.getD_cons_zero, List.getD_cons_succ, Is, and_true] at hD
        have h12 := hD.2.2.2.2.2.2.2.2.2.2.2.2.1
        have h15 := hD.2.2.2.2.2.2.2.2.2.2.2.2.2.2.2.1
        clear hD
        generalize hA : fillL y _ _ = A at hK ⊢
        simp only [fillL, Act.put, List.setIfInBounds_toArray, List.set_cons_zero, List.set_cons_succ, List.getD_cons_zero, List.getD_cons_succ, Is] at hA
        subst hA
        simp only [h12, h15] at hK ⊢
        clear h12 h15
        refine ite_no (by rfl) ?_
        exact hK _ _ _ rfl (Grew.refl _) trivial
      refine ⟨?_, ?_⟩
      · intro y w2 hG hD K hK
        simp only [depsH, List.getD_cons_zero, List.getD_cons_succ, Is, and_true] at hD
        have h12 := hD.2.2.2.2.2.2.2.2.2.2.2.2.1
        have h15 := hD.2.2.2.2.2.2.2.2.2.2.2.2.2.2.2.1
        clear hD
        generalize hA : fillL y _ _ = A at hK ⊢
        simp only [fillL, Act.put, List.setIfInBounds_toArray, List.set_cons_zero, List.set_cons_succ, List.getD_cons_zero, List.getD_cons_succ, Is] at hA
        subst hA
        simp only [h12, h15] at hK ⊢
        clear h12 h15
        refine ite_no (by rfl) ?_
        exact hK _ _ _ rfl (Grew.refl _) trivial
      refine ⟨?_, ?_⟩
      · intro y w2 hG hD K hK
        simp only [depsH, List.getD_cons_zero, List.getD_cons_succ, Is, and_true] at hD
        have h12 := hD.2.2.2.2.2.2.2.2.2.2.2.2.1
        have h15 := hD.2.2.2.2.2.2.2.2.2.2.2.2.2.2.2
        clear hD
        generalize hA : fillL y _ _ = A at hK ⊢
        simp only [fillL, Act.put, List.setIfInBounds_toArray, List.set_cons_zero, List.set_cons_succ, List.getD_cons_zero, List.getD_cons_succ, Is] at hA
        subst hA
        simp only [h12, h15] at hK ⊢
        clear h12 h15
        refine ite_no (by rfl) ?_
        exact hK _ _ _ rfl (Grew.refl _) trivial
      refine ⟨?_, ?_⟩
      · intro y w2 hG hD K hK
        simp only [depsH, List.getD_cons_zero, List.getD_cons_succ, Is, and_true] at hD
        have h12 := hD.2.2.2.2.2.2.2.2.2.2.2.2.1
        have h15 := hD.2.2.2.2.2.2.2.2.2.2.2.2.2.2.2
        clear hD
        generalize hA : fillL y _ _ = A at hK ⊢
        simp only [fillL, Act.put, List.setIfInBounds_toArray, List.set_cons_zero, List.set_cons_succ, List.getD_cons_zero, List.getD_cons_succ, Is] at hA
        subst hA
        simp only [h12, h15] at hK ⊢
        clear h12 h15
        refine ite_no (by rfl) ?_
        exact hK _ _ _ rfl (Grew.refl _) trivial
      refine ⟨?_, ?_⟩
      · intro y w2 hG hD K hK
        simp only [depsH, List.getD_cons_zero, List.getD_cons_succ, Is, and_true] at hD
        have h12 := hD.2.2.2.2.2.2.2.2.2.2.2.2.1
        have h15 := hD.2.2.2.2.2.2.2.2.2.2.2.2.2.2.2.1
        clear hD
        generalize hA : fillL y _ _ = A at hK ⊢
        simp only [fillL, Act.put, List.setIfInBounds_toArray, List.set_cons_zero, List.set_cons_succ, List.getD_cons_zero, List.getD_cons_succ, Is] at hA
        subst hA
        simp only [h12, h15] at hK ⊢
        clear h12 h15
        refine ite_no (by rfl) ?_
        exact hK _ _ _ rfl (Grew.refl _) trivial
      refine ⟨?_, ?_⟩
      · intro y w2 hG hD K hK
        simp only [depsH, List.getD_cons_zero, List.getD_cons_succ, Is, and_true] at hD
        have h12 := hD.2.2.2.2.2.2.2.2.2.2.2.2.1
        have h15 := hD.2.2.2.2.2.2.2.2.2.2.2.2.2.2.2.1
        clear hD
        generalize hA : fillL y _ _ = A at hK ⊢
        simp only [fillL, Act.put, List.setIfInBounds_toArray, List.set_cons_zero, List.set_cons_succ, List.getD_cons_zero, List.getD_cons_succ, Is] at hA
        subst hA
        simp only [h12, h15] at hK ⊢
        clear h12 h15
        refine ite_no (by rfl) ?_
        exact hK _ _ _ rfl (Grew.refl _) trivial
      refine ⟨?_, ?_⟩
      · intro y w2 hG hD K hK
        simp only [depsH, List.getD_cons_zero, List.getD_cons_succ, Is, and_true] at hD
        have h12 := hD.2.2.2.2.2.2.2.2.2.2.2.2.1
        have h15 := hD.2.2.2.2.2.2.2.2.2.2.2.2.2.2.2.1
        clear hD
        generalize hA : fillL y _ _ = A at hK ⊢
        simp only [fillL, Act.put, List.setIfInBounds_toArray, List.set_cons_zero, List.set_cons_succ, List.getD_cons_zero, List.getD_cons_succ, Is] at hA
        subst hA
        simp only [h12, h15] at hK ⊢
        clear h12 h15
        refine ite_no (by rfl) ?_
        exact hK _ _ _ rfl (Grew.refl _) trivial
      refine ⟨?_, ?_⟩
      · intro y w2 hG hD K hK
        simp only [depsH, List.getD_cons_zero, List.getD_cons_succ, Is, and_true] at hD
        have h12 := hD.2.2.2.2.2.2.2.2.2.2.2.2.1
        have h15 := hD.2.2.2.2.2.2.2.2.2.2.2.2.2.2.2.1
        clear hD
        generalize hA : fillL y _ _ = A at hK ⊢
        simp only [fillL, Act.put, List.setIfInBounds_toArray, List.set_cons_zero, List.set_cons_succ, List.getD_cons_zero, List.getD_cons_succ, Is] at hA
        subst hA
        simp only [h12, h15] at hK ⊢
        clear h12 h15
        refine ite_no (by rfl) ?_
        exact hK _ _ _ rfl (Grew.refl _) trivial
      refine ⟨?_, ?_⟩
      · intro y w2 hG hD K hK
        simp only [depsH, List.getD_cons_zero, List.getD_cons_succ, Is, and_true] at hD
        have h12 := hD.2.2.2.2.2.2.2.2.2.2.2.2.1
        have h15 := hD.2.2.2.2.2.2.2.2.2.2.2.2.2.2.2.1
        clear hD
        generalize hA : fillL y _ _ = A at hK ⊢
        simp only [fillL, Act.put, List.setIfInBounds_toArray, List.set_cons_zero, List.set_cons_succ, List.getD_cons_zero, List.getD_cons_succ, Is] at hA
        subst hA
        simp only [h12, h15] at hK ⊢
        clear h12 h15
        refine ite_yes (by rfl) ?_
        go_simp
        exact hK _ _ _ rfl (Grew.refl _) rfl
      refine ⟨?_, ?_⟩
      · intro y w2 hG hD K hK
        simp only [depsH, List.getD_cons_zero, List.getD_cons_succ, Is, and_true] at hD
        have h12 := hD.2.2.2.2.2.2.2.2.2.2.2.2.1
        have h27 := hD.2.2.2.2.2.2.2.2.2.2.2.2.2.2.2.2.2.2.2.2.2.2.2.2.2.2.2
        clear hD
        generalize hA : fillL y _ _ = A at hK ⊢
        simp only [fillL, Act.put, List.setIfInBounds_toArray, List.set_cons_zero, List.set_cons_succ, List.getD_cons_zero, List.getD_cons_succ, Is] at hA
        subst hA
        simp only [h12, h27] at hK ⊢
        clear h12 h27
        refine ite_yes (by rfl) ?_
        go_simp
        exact hK _ _ _ rfl (Grew.refl _) rfl
      trivial
    obtain ⟨j, hj⟩ : ∃ j, kk = j + 1 := ⟨kk - 1, by omega⟩
    obtain ⟨z, hzz⟩ : ∃ z, l[j]? = some z := ⟨_, List.getElem?_eq_getElem (by omega)⟩
    obtain ⟨hzl, b2, o2, e3, hc2⟩ := hcell j z hzz
    cases e3
    have cz := HGY.out.cell (HGW.out.cell hc2)
    have hwj : IntKind.i64.wrap ((kk : Int) - 1) = j := by rw [IntKind.wrap_i64]; omega
    have hjl : (j : Int) < l.length := by omega
    have hdb : decide ((0 : Int) < (kk : Int)) = true := decide_eq_true (by omega)
    have hdn : decide (0 < kk) = true := decide_eq_true (by omega)
    have hdi : (0 : Int) < (kk : Int) := by omega
    have HJ := Lib.hid hj
    clear hj hk0
    have HZ := Lib.hid hzz
    have HZZ := Lib.hid hzl
    have HYZ := Lib.hid hyz
    obtain ⟨lt, hltq⟩ : ∃ b, ltS z y = b := ⟨_, rfl⟩
    have HLT := Lib.hid hltq
    clear hltq hzz hc2 hzl hyz hcell
    refine wp_region_tables Grew [[], [], [], [], [2, 3], [], [], [5, 6], [5, 6, 7], [5, 6, 7, 8], [0, 1, 2, 3, 4, 5, 6, 7, 8, 9], [0, 1, 2, 3, 4, 5, 6, 7, 8, 9, 10], [0, 1, 2, 3, 4, 5, 6, 7, 8, 9, 10, 11], [0, 1, 2, 3, 4, 5, 6, 7, 8, 9, 10, 11, 12], [0, 1, 2, 3, 4, 5, 6, 7, 8, 9, 10, 11, 12, 13], [0, 1, 2, 3, 4, 5, 6, 7, 8, 9, 10, 11, 12, 13, 14], [0, 1, 2, 3, 4, 5, 6, 7, 8, 9, 10, 11, 12, 13, 14, 15], [0, 1, 2, 3, 4, 5, 6, 7, 8, 9, 10, 11, 12, 13, 14, 15], [0, 1, 2, 3, 4, 5, 6, 7, 8, 9, 10, 11, 12, 13, 14, 15, 17], [0, 1, 2, 3, 4, 5, 6, 7, 8, 9, 10, 11, 12, 13, 14, 15, 16, 17, 18], [0, 1, 2, 3, 4, 5, 6, 7, 8, 9, 10, 11, 12, 13, 14, 15, 16, 17, 18, 19], [0, 1, 2, 3, 4, 5, 6, 7, 8, 9, 10, 11, 12, 13, 14, 15], [0, 1, 2, 3, 4, 5, 6, 7, 8, 9, 10, 11, 12, 13, 14, 15], [0, 1, 2, 3, 4, 5, 6, 7, 8, 9, 10, 11, 12, 13, 14, 15, 21, 22], [0, 1, 2, 3, 4, 5, 6, 7, 8, 9, 10, 11, 12, 13, 14, 15, 21, 22, 23], [0, 1, 2, 3, 4, 5, 6, 7, 8, 9, 10, 11, 12, 13, 14, 15, 16, 17, 18, 19, 20, 21, 22, 23, 24], [0, 1, 2, 3, 4, 5, 6, 7, 8, 9, 10, 11, 12, 13, 14, 15, 16, 17, 18, 19, 20, 21, 22, 23, 24, 25], [0, 1, 2, 3, 4, 5, 6, 7, 8, 9, 10, 11, 12, 13, 14, 15, 16, 17, 18, 19, 20, 21, 22, 23, 24, 25, 26], [0, 1, 2, 3, 4, 5, 6, 7, 8, 9, 10, 11, 12, 13, 14, 15, 16, 17, 18, 19, 20, 21, 22, 23, 24, 25, 26, 27]] [[(106, 1), (107, 2), (108, 3), (109, 4), (110, 5), (111, 6), (112, 7), (113, 8), (114, 9)], [(105, 0), (107, 2), (108, 3), (109, 4), (110, 5), (111, 6), (112, 7), (113, 8), (114, 9)], [(105, 0), (106, 1), (108, 3), (110, 5), (111, 6), (112, 7), (113, 8), (114, 9)], [(105, 0), (106, 1), (107, 2), (110, 5), (111, 6), (112, 7), (113, 8), (114, 9)], [(105, 0), (106, 1), (107, 2), (108, 3), (110, 5), (111, 6), (112, 7), (113, 8), (114, 9)], [(105, 0), (106, 1), (107, 2), (108, 3), (109, 4), (111, 6)], [(105, 0), (106, 1), (107, 2), (108, 3), (109, 4), (110, 5)], [(105, 0), (106, 1), (107, 2), (108, 3), (109, 4), (110, 5), (111, 6)], [(105, 0), (106, 1), (107, 2), (108, 3), (109, 4), (110, 5), (111, 6), (112, 7)], [(105, 0), (106, 1), (107, 2), (108, 3), (109, 4), (110, 5), (111, 6), (112, 7), (113, 8)], [(105, 0), (106, 1), (107, 2), (108, 3), (109, 4), (110, 5), (111, 6), (112, 7), (113, 8), (114, 9)], [(105, 0), (106, 1), (107, 2), (108, 3), (109, 4), (110, 5), (111, 6), (112, 7), (113, 8), (114, 9), (115, 10)], [(105, 0), (106, 1), (107, 2), (108, 3), (109, 4), (110, 5), (111, 6), (112, 7), (113, 8), (114, 9), (115, 10), (116, 11)], [(105, 0), (106, 1), (107, 2), (108, 3), (109, 4), (110, 5), (111, 6), (112, 7), (113, 8), (114, 9), (115, 10), (116, 11), (117, 12)], [(105, 0), (106, 1), (107, 2), (108, 3), (109, 4), (110, 5), (111, 6), (112, 7), (113, 8), (114, 9), (115, 10), (116, 11), (117, 12), (118, 13)], [(105, 0), (106, 1), (107, 2), (108, 3), (109, 4), (110, 5), (111, 6), (112, 7), (113, 8), (114, 9), (115, 10), (116, 11), (117, 12), (118, 13), (119, 14)], [(105, 0), (106, 1), (107, 2), (108, 3), (109, 4), (110, 5), (111, 6), (112, 7), (113, 8), (114, 9), (115, 10), (116, 11), (117, 12), (118, 13), (119, 14), (120, 15), (122, 17), (123, 18), (126, 21), (127, 22), (128, 23), (129, 24)], [(105, 0), (106, 1), (107, 2), (108, 3), (109, 4), (110, 5), (111, 6), (112, 7), (113, 8), (114, 9), (115, 10), (116, 11), (117, 12), (118, 13), (119, 14), (120, 15), (121, 16), (126, 21), (127, 22), (128, 23), (129, 24)], [(105, 0), (106, 1), (107, 2), (108, 3), (109, 4), (110, 5), (111, 6), (112, 7), (113, 8), (114, 9), (115, 10), (116, 11), (117, 12), (118, 13), (119, 14), (120, 15), (121, 16), (122, 17), (126, 21), (127, 22), (128, 23), (129, 24)], [(105, 0), (106, 1), (107, 2), (108, 3), (109, 4), (110, 5), (111, 6), (112, 7), (113, 8), (114, 9), (115, 10), (116, 11), (117, 12), (118, 13), (119, 14), (120, 15), (121, 16), (122, 17), (123, 18), (126, 21), (127, 22), (128, 23), (129, 24)], [(105, 0), (106, 1), (107, 2), (108, 3), (109, 4), (110, 5), (111, 6), (112, 7), (113, 8), (114, 9), (115, 10), (116, 11), (117, 12), (118, 13), (119, 14), (120, 15), (121, 16), (122, 17), (123, 18), (124, 19), (126, 21), (127, 22), (128, 23), (129, 24)], [(105, 0), (106, 1), (107, 2), (108, 3), (109, 4), (110, 5), (111, 6), (112, 7), (113, 8), (114, 9), (115, 10), (116, 11), (117, 12), (118, 13), (119, 14), (120, 15), (121, 16), (122, 17), (123, 18), (124, 19), (125, 20), (127, 22)], [(105, 0), (106, 1), (107, 2), (108, 3), (109, 4), (110, 5), (111, 6), (112, 7), (113, 8), (114, 9), (115, 10), (116, 11), (117, 12), (118, 13), (119, 14), (120, 15), (121, 16), (122, 17), (123, 18), (124, 19), (125, 20), (126, 21)], [(105, 0), (106, 1), (107, 2), (108, 3), (109, 4), (110, 5), (111, 6), (112, 7), (113, 8), (114, 9), (115, 10), (116, 11), (117, 12), (118, 13), (119, 14), (120, 15), (121, 16), (122, 17), (123, 18), (124, 19), (125, 20), (126, 21), (127, 22)], [(105, 0), (106, 1), (107, 2), (108, 3), (109, 4), (110, 5), (111, 6), (112, 7), (113, 8), (114, 9), (115, 10), (116, 11), (117, 12), (118, 13), (119, 14), (120, 15), (121, 16), (122, 17), (123, 18), (124, 19), (125, 20), (126, 21), (127, 22), (128, 23)], [(105, 0), (106, 1), (107, 2), (108, 3), (109, 4), (110, 5), (111, 6), (112, 7), (113, 8), (114, 9), (115, 10), (116, 11), (117, 12), (118, 13), (119, 14), (120, 15), (121, 16), (122, 17), (123, 18), (124, 19), (125, 20), (126, 21), (127, 22), (128, 23), (129, 24)], [(105, 0), (106, 1), (107, 2), (108, 3), (109, 4), (110, 5), (111, 6), (112, 7), (113, 8), (114, 9), (115, 10), (116, 11), (117, 12), (118, 13), (119, 14), (120, 15), (121, 16), (122, 17), (123, 18), (124, 19), (125, 20), (126, 21), (127, 22), (128, 23), (129, 24), (130, 25)], [(105, 0), (106, 1), (107, 2), (108, 3), (109, 4), (110, 5), (111, 6), (112, 7), (113, 8), (114, 9), (115, 10), (116, 11), (117, 12), (118, 13), (119, 14), (120, 15), (121, 16), (122, 17), (123, 18), (124, 19), (125, 20), (126, 21), (127, 22), (128, 23), (129, 24), (130, 25), (131, 26)], [(105, 0), (106, 1), (107, 2), (108, 3), (109, 4), (110, 5), (111, 6), (112, 7), (113, 8), (114, 9), (115, 10), (116, 11), (117, 12), (118, 13), (119, 14), (120, 15), (121, 16), (122, 17), (123, 18), (124, 19), (125, 20), (126, 21), (127, 22), (128, 23), (129, 24), (130, 25), (131, 26), (132, 27)]] [(105, 0), (106, 1), (107, 2), (108, 3), (109, 4), (110, 5), (111, 6), (112, 7), (113, 8), (114, 9), (115, 10), (116, 11), (117, 12), (118, 13), (119, 14), (120, 15), (121, 16), (122, 17), (123, 18), (124, 19), (125, 20), (126, 21), (127, 22), (128, 23), (129, 24), (130, 25), (131, 26), (132, 27), (133, 28)]
      [Is (.slice da d.length dc), Is (.agg #[.int .i64 (at_ + (kk : Int) * wide), .int .i64 wide, .int .i64 4, .int .i64 wide]), Is (.int .i64 at_), Is (.int .i64 wide), Is (.int .i64 (at_ - wide)), Is (.slice (some ⟨b1, o1, none⟩) l.length c4), Is (.int .i64 ((kk : Int))), Is (.pointer (some ⟨b1, o1 + kk, none⟩)), Is (.string y), Is (.agg #[.int .i64 5, .int .i64 0, .int .u64 0, .string y, .slice none 0 0, .slice none 0 0]), Is (.bool true), Is (.bool false), Is (.bool false), Is (.int .i64 ((kk : Int))), Is (.bool true), Is (.bool true), Is (.slice (some ⟨b1, o1, none⟩) l.length c4), Is (.int .i64 ((kk : Int))), Is (.int .i64 (j : Int)), Is (.pointer (some ⟨b1, o1 + j, none⟩)), Is (.string z), Is (.slice (some ⟨b1, o1, none⟩) l.length c4), Is (.int .i64 ((kk : Int))), Is (.pointer (some ⟨b1, o1 + kk, none⟩)), Is (.string y), Is (.bool lt), Is (.bool (!lt)), Is (.bool (!lt)), Is (.bool (!lt))]
      (by kernel_rfl) Grew.trans Grew.refl (Grew.refl _).drew (by kernel_rfl) ⟨is_st, is_st, is_st, is_st, is_st, is_st, is_st, is_st, is_st, is_st, is_st, is_st, is_st, is_st, is_st, is_st, is_st, is_st, is_st, is_st, is_st, is_st, is_st, is_st, is_st, is_st, is_st, is_st, is_st, trivial⟩ ?_ rfl ?_
    rotate_left
    · intro y w2 hG hF
      simp only [factsH, Is, and_true, Nat.reduceAdd] at hF
      have hlast := hF.2.2.2.2.2.2.2.2.2.2.2.2.2.2.2.2.2.2.2.2.2.2.2.2.2.2.2.2
      clear hF
      simp only [fillL, Act.put, List.setIfInBounds_toArray, List.set_cons_zero, List.set_cons_succ, List.getD_cons_zero, List.getD_cons_succ, hlast]
      cases lt
      · have HGF := Lib.hid (HGW.out.trans (HGY.out.trans hG))
        have HV : Hid (res = false) := by show _ = _; rw [HRS2.out]; rw [inc_take l j z _ HZ.out (by have h := HY.out; rw [HJ.out] at h; exact h) HLT.out]; rfl
        clear hG hlast
        go_wp2_with fail
        go_ret
        exact ⟨by rw [HV.out]; rfl, HGF.out⟩
      · have HG6 := Lib.hid (HL.out.1.trans (HGY.out.trans hG))
        clear hG hlast
        go_wp2_with fail
        go_roundw
        case rel =>
          refine ⟨kk + 1, by omega, by go_num, ?_⟩
          show _ ∧ _
          refine ⟨HG6.out, fun i q hi hq => ?_, fun i a b hi ha hb => ?_⟩
          · by_cases h : i < kk
            · exact HL.out.2.1 i q h hq
            · have e : i = kk := by omega
              subst e
              have h2 := HY.out
              rw [hq] at h2
              injection h2 with h2
              rw [h2]; exact HSB.out
          · by_cases h : i + 1 < kk
            · exact HL.out.2.2 i a b h ha hb
            · have e : i = j := by have := HJ.out; omega
              subst e
              have h1 := HZ.out
              have h2 := HY.out
              rw [HJ.out] at h2
              rw [ha] at h1
              rw [hb] at h2
              injection h1 with h1
              injection h2 with h2
              rw [h1, h2]; exact HLT.out
        case measure => simp [intOf]; omega
    refine ⟨?_, ?_⟩
    · intro y w2 hG hD K hK
      generalize hA : fillL y _ _ = A at hK ⊢
      simp only [fillL, Act.put, List.setIfInBounds_toArray, List.set_cons_zero, List.set_cons_succ, List.getD_cons_zero, List.getD_cons_succ, Is] at hA
      subst hA
      refine ite_yes (by rfl) ?_
      go_simp
      exact hK _ _ _ rfl (Grew.refl _) rfl
    refine ⟨?_, ?_⟩
    · intro y w2 hG hD K hK
      have dg0 := hG.cell g0
      have dg1 := hG.cell g1
      have dg2 := hG.cell g2
      have dg3 := hG.cell g3
      generalize hA : fillL y _ _ = A at hK ⊢
      simp only [fillL, Act.put, List.setIfInBounds_toArray, List.set_cons_zero, List.set_cons_succ, List.getD_cons_zero, List.getD_cons_succ, Is] at hA
      subst hA
      refine ite_yes (by rfl) ?_
      go_simp
      exact hK _ _ _ rfl (Grew.refl _) rfl
    refine ⟨?_, ?_⟩
    · intro y w2 hG hD K hK
      generalize hA : fillL y _ _ = A at hK ⊢
      simp only [fillL, Act.put, List.setIfInBounds_toArray, List.set_cons_zero, List.set_cons_succ, List.getD_cons_zero, List.getD_cons_succ, Is] at hA
      subst hA
      refine ite_yes (by rfl) ?_
      go_simp
      exact hK _ _ _ rfl (Grew.refl _) rfl
    refine ⟨?_, ?_⟩
    · intro y w2 hG hD K hK
      generalize hA : fillL y _ _ = A at hK ⊢
      simp only [fillL, Act.put, List.setIfInBounds_toArray, List.set_cons_zero, List.set_cons_succ, List.getD_cons_zero, List.getD_cons_succ, Is] at hA
      subst hA
      refine ite_yes (by rfl) ?_
      go_simp
      exact hK _ _ _ rfl (Grew.refl _) rfl
    refine ⟨?_, ?_⟩
    · intro y w2 hG hD K hK
      simp only [depsH, List.getD_cons_zero, List.getD_cons_succ, Is, and_true] at hD
      have h2 := hD.1
      have h3 := hD.2
      clear hD
      generalize hA : fillL y _ _ = A at hK ⊢
      simp only [fillL, Act.put, List.setIfInBounds_toArray, List.set_cons_zero, List.set_cons_succ, List.getD_cons_zero, List.getD_cons_succ, Is] at hA
      subst hA
      simp only [h2, h3] at hK ⊢
      clear h2 h3
      refine ite_yes (by rfl) ?_
      go_simp
      exact hK _ _ _ rfl (Grew.refl _) rfl
    refine ⟨?_, ?_⟩
    · intro y w2 hG hD K hK
      generalize hA : fillL y _ _ = A at hK ⊢
      simp only [fillL, Act.put, List.setIfInBounds_toArray, List.set_cons_zero, List.set_cons_succ, List.getD_cons_zero, List.getD_cons_succ, Is] at hA
      subst hA
      refine ite_yes (by rfl) ?_
      go_simp
      exact hK _ _ _ rfl (Grew.refl _) rfl
    refine ⟨?_, ?_⟩
    · intro y w2 hG hD K hK
      generalize hA : fillL y _ _ = A at hK ⊢
      simp only [fillL, Act.put, List.setIfInBounds_toArray, List.set_cons_zero, List.set_cons_succ, List.getD_cons_zero, List.getD_cons_succ, Is] at hA
      subst hA
      refine ite_yes (by rfl) ?_
      go_simp
      exact hK _ _ _ rfl (Grew.refl _) rfl
    refine ⟨?_, ?_⟩
    · intro y w2 hG hD K hK
      simp only [depsH, List.getD_cons_zero, List.getD_cons_succ, Is, and_true] at hD
      have h5 := hD.1
      have h6 := hD.2
      clear hD
      generalize hA : fillL y _ _ = A at hK ⊢
      simp only [fillL, Act.put, List.setIfInBounds_toArray, List.set_cons_zero, List.set_cons_succ, List.getD_cons_zero, List.getD_cons_succ, Is] at hA
      subst hA
      simp only [h5, h6] at hK ⊢
      clear h5 h6
      refine ite_yes (by rfl) ?_
      go_simp
      exact hK _ _ _ rfl (Grew.refl _) rfl
    refine ⟨?_, ?_⟩
    · intro y w2 hG hD K hK
      simp only [depsH, List.getD_cons_zero, List.getD_cons_succ, Is, and_true] at hD
      have h5 := hD.1
      have h6 := hD.2.1
      have h7 := hD.2.2
      clear hD
      have dcy := hG.cell cy
      generalize hA : fillL y _ _ = A at hK ⊢
      simp only [fillL, Act.put, List.setIfInBounds_toArray, List.set_cons_zero, List.set_cons_succ, List.getD_cons_zero, List.getD_cons_succ, Is] at hA
      subst hA
      simp only [h5, h6, h7] at hK ⊢
      clear h5 h6 h7
      refine ite_yes (by rfl) ?_
      go_simp
      exact hK _ _ _ rfl (Grew.refl _) rfl
    refine ⟨?_, ?_⟩
    · intro y w2 hG hD K hK
      simp only [depsH, List.getD_cons_zero, List.getD_cons_succ, Is, and_true] at hD
      have h5 := hD.1
      have h6 := hD.2.1
      have h7 := hD.2.2.1
      have h8 := hD.2.2.2
      clear hD
      generalize hA : fillL y _ _ = A at hK ⊢
      simp only [fillL, Act.put, List.setIfInBounds_toArray, List.set_cons_zero, List.set_cons_succ, List.getD_cons_zero, List.getD_cons_succ, Is] at hA
      subst hA
      simp only [h5, h6, h7, h8] at hK ⊢
      clear h5 h6 h7 h8
      refine ite_yes (by rfl) ?_
      go_simp
      exact hK _ _ _ rfl (Grew.refl _) rfl
    refine ⟨?_, ?_⟩
    · intro y w2 hG hD K hK
      simp only [depsH, List.getD_cons_zero, List.getD_cons_succ, Is, and_true] at hD
      have h0 := hD.1
      have h1 := hD.2.1
      have h2 := hD.2.2.1
      have h3 := hD.2.2.2.1
      have h4 := hD.2.2.2.2.1
      have h5 := hD.2.2.2.2.2.1
      have h6 := hD.2.2.2.2.2.2.1
      have h7 := hD.2.2.2.2.2.2.2.1
      have h8 := hD.2.2.2.2.2.2.2.2.1
      have h9 := hD.2.2.2.2.2.2.2.2.2
      clear hD
      generalize hA : fillL y _ _ = A at hK ⊢
      simp only [fillL, Act.put, List.setIfInBounds_toArray, List.set_cons_zero, List.set_cons_succ, List.getD_cons_zero, List.getD_cons_succ, Is] at hA
      subst hA
      simp only [h0, h1, h2, h3, h4, h5, h6, h7, h8, h9] at hK ⊢
      clear h0 h1 h2 h3 h4 h5 h6 h7 h8 h9
      refine ite_yes (by rfl) ?_
      go_simp
      refine (HCALL.out w2 (HGY.out.trans hG)).mono ?_
      rintro r w3 ⟨rfl, hg3⟩
      exact hK _ _ _ rfl hg3 rfl
    refine ⟨?_, ?_⟩
    · intro y w2 hG hD K hK
      simp only [depsH, List.getD_cons_zero, List.getD_cons_succ, Is, and_true] at hD
      have h0 := hD.1
      have h1 := hD.2.1
      have h2 := hD.2.2.1
      have h3 := hD.2.2.2.1
      have h4 := hD.2.2.2.2.1
      have h5 := hD.2.2.2.2.2.1
      have h6 := hD.2.2.2.2.2.2.1
      have h7 := hD.2.2.2.2.2.2.2.1
      have h8 := hD.2.2.2.2.2.2.2.2.1
      have h9 := hD.2.2.2.2.2.2.2.2.2.1
      have h10 := hD.2.2.2.2.2.2.2.2.2.2
      clear hD
      generalize hA : fillL y _ _ = A at hK ⊢
      simp only [fillL, Act.put, List.setIfInBounds_toArray, List.set_cons_zero, List.set_cons_succ, List.getD_cons_zero, List.getD_cons_succ, Is] at hA
      subst hA
      simp only [h0, h1, h2, h3, h4, h5, h6, h7, h8, h9, h10] at hK ⊢
      clear h0 h1 h2 h3 h4 h5 h6 h7 h8 h9 h10
      refine ite_yes (by rfl) ?_
      go_simp
      exact hK _ _ _ rfl (Grew.refl _) rfl
    refine ⟨?_, ?_⟩
    · intro y w2 hG hD K hK
      simp only [depsH, List.getD_cons_zero, List.getD_cons_succ, Is, and_true] at hD
      have h0 := hD.1
      have h1 := hD.2.1
      have h2 := hD.2.2.1
      have h3 := hD.2.2.2.1
      have h4 := hD.2.2.2.2.1
      have h5 := hD.2.2.2.2.2.1
      have h6 := hD.2.2.2.2.2.2.1
      have h7 := hD.2.2.2.2.2.2.2.1
      have h8 := hD.2.2.2.2.2.2.2.2.1
      have h9 := hD.2.2.2.2.2.2.2.2.2.1
      have h10 := hD.2.2.2.2.2.2.2.2.2.2.1
      have h11 := hD.2.2.2.2.2.2.2.2.2.2.2
      clear hD
      generalize hA : fillL y _ _ = A at hK ⊢
      simp only [fillL, Act.put, List.setIfInBounds_toArray, List.set_cons_zero, List.set_cons_succ, List.getD_cons_zero, List.getD_cons_succ, Is] at hA
      subst hA
      simp only [h0, h1, h2, h3, h4, h5, h6, h7, h8, h9, h10, h11] at hK ⊢
      clear h0 h1 h2 h3 h4 h5 h6 h7 h8 h9 h10 h11
      refine ite_yes (by rfl) ?_
      go_simp
      exact hK _ _ _ rfl (Grew.refl _) rfl
    refine ⟨?_, ?_⟩
    · intro y w2 hG hD K hK
      simp only [depsH, List.getD_cons_zero, List.getD_cons_succ, Is, and_true] at hD
      have h0 := hD.1
      have h1 := hD.2.1
      have h2 := hD.2.2.1
      have h3 := hD.2.2.2.1
      have h4 := hD.2.2.2.2.1
      have h5 := hD.2.2.2.2.2.1
      have h6 := hD.2.2.2.2.2.2.1
      have h7 := hD.2.2.2.2.2.2.2.1
      have h8 := hD.2.2.2.2.2.2.2.2.1
      have h9 := hD.2.2.2.2.2.2.2.2.2.1
      have h10 := hD.2.2.2.2.2.2.2.2.2.2.1
      have h11 := hD.2.2.2.2.2.2.2.2.2.2.2.1
      have h12 := hD.2.2.2.2.2.2.2.2.2.2.2.2
      clear hD
      generalize hA : fillL y _ _ = A at hK ⊢
      simp only [fillL, Act.put, List.setIfInBounds_toArray, List.set_cons_zero, List.set_cons_succ, List.getD_cons_zero, List.getD_cons_succ, Is] at hA
      subst hA
      simp only [h0, h1, h2, h3, h4, h5, h6, h7, h8, h9, h10, h11, h12] at hK ⊢
      clear h0 h1 h2 h3 h4 h5 h6 h7 h8 h9 h10 h11 h12
      refine ite_yes (by rfl) ?_
      go_simp
      exact hK _ _ _ rfl (Grew.refl _) rfl
    refine ⟨?_, ?_⟩
    · intro y w2 hG hD K hK
      simp only [depsH, List.getD_cons_zero, List.getD_cons_succ, Is, and_true] at hD
      have h0 := hD.1
      have h1 := hD.2.1
      have h2 := hD.2.2.1
      have h3 := hD.2.2.2.1
      have h4 := hD.2.2.2.2.1
      have h5 := hD.2.2.2.2.2.1
      have h6 := hD.2.2.2.2.2.2.1
      have h7 := hD.2.2.2.2.2.2.2.1
      have h8 := hD.2.2.2.2.2.2.2.2.1
      have h9 := hD.2.2.2.2.2.2.2.2.2.1
      have h10 := hD.2.2.2.2.2.2.2.2.2.2.1
      have h11 := hD.2.2.2.2.2.2.2.2.2.2.2.1
      have h12 := hD.2.2.2.2.2.2.2.2.2.2.2.2.1
      have h13 := hD.2.2.2.2.2.2.2.2.2.2.2.2.2
      clear hD
      generalize hA : fillL y _ _ = A at hK ⊢
      simp only [fillL, Act.put, List.setIfInBounds_toArray, List.set_cons_zero, List.set_cons_succ, List.getD_cons_zero, List.getD_cons_succ, Is] at hA
      subst hA
      simp only [h0, h1, h2, h3, h4, h5, h6, h7, h8, h9, h10, h11, h12, h13] at hK ⊢
      clear h0 h1 h2 h3 h4 h5 h6 h7 h8 h9 h10 h11 h12 h13
      refine ite_yes (by rfl) ?_
      go_simp
      exact hK _ _ _ rfl (Grew.refl _) (by first | rfl | exact congrArg Value.bool hdb | exact congrArg Value.bool hdn)
    refine ⟨?_, ?_⟩
    · intro y w2 hG hD K hK
      simp only [depsH, List.getD_cons_zero, List.getD_cons_succ, Is, and_true] at hD
      have h0 := hD.1
      have h1 := hD.2.1
      have h2 := hD.2.2.1
      have h3 := hD.2.2.2.1
      have h4 := hD.2.2.2.2.1
      have h5 := hD.2.2.2.2.2.1
      have h6 := hD.2.2.2.2.2.2.1
      have h7 := hD.2.2.2.2.2.2.2.1
      have h8 := hD.2.2.2.2.2.2.2.2.1
      have h9 := hD.2.2.2.2.2.2.2.2.2.1
      have h10 := hD.2.2.2.2.2.2.2.2.2.2.1
      have h11 := hD.2.2.2.2.2.2.2.2.2.2.2.1
      have h12 := hD.2.2.2.2.2.2.2.2.2.2.2.2.1
      have h13 := hD.2.2.2.2.2.2.2.2.2.2.2.2.2.1
      have h14 := hD.2.2.2.2.2.2.2.2.2.2.2.2.2.2
      clear hD
      generalize hA : fillL y _ _ = A at hK ⊢
      simp only [fillL, Act.put, List.setIfInBounds_toArray, List.set_cons_zero, List.set_cons_succ, List.getD_cons_zero, List.getD_cons_succ, Is] at hA
      subst hA
      simp only [h0, h1, h2, h3, h4, h5, h6, h7, h8, h9, h10, h11, h12, h13, h14] at hK ⊢
      clear h0 h1 h2 h3 h4 h5 h6 h7 h8 h9 h10 h11 h12 h13 h14
      refine ite_yes (by rfl) ?_
      go_simp
      exact hK _ _ _ rfl (Grew.refl _) rfl
    refine ⟨?_, ?_⟩
    · intro y w2 hG hD K hK
      simp only [depsH, List.getD_cons_zero, List.getD_cons_succ, Is, and_true] at hD
      have h0 := hD.1
      have h1 := hD.2.1
      have h2 := hD.2.2.1
      have h3 := hD.2.2.2.1
      have h4 := hD.2.2.2.2.1
      have h5 := hD.2.2.2.2.2.1
      have h6 := hD.2.2.2.2.2.2.1
      have h7 := hD.2.2.2.2.2.2.2.1
      have h8 := hD.2.2.2.2.2.2.2.2.1
      have h9 := hD.2.2.2.2.2.2.2.2.2.1
      have h10 := hD.2.2.2.2.2.2.2.2.2.2.1
      have h11 := hD.2.2.2.2.2.2.2.2.2.2.2.1
      have h12 := hD.2.2.2.2.2.2.2.2.2.2.2.2.1
      have h13 := hD.2.2.2.2.2.2.2.2.2.2.2.2.2.1
      have h14 := hD.2.2.2.2.2.2.2.2.2.2.2.2.2.2.1
      have h15 := hD.2.2.2.2.2.2.2.2.2.2.2.2.2.2.2
      clear hD
      generalize hA : fillL y _ _ = A at hK ⊢
      simp only [fillL, Act.put, List.setIfInBounds_toArray, List.set_cons_zero, List.set_cons_succ, List.getD_cons_zero, List.getD_cons_succ, Is] at hA
      subst hA
      simp only [h0, h1, h2, h3, h4, h5, h6, h7, h8, h9, h10, h11, h12, h13, h14, h15] at hK ⊢
      clear h0 h1 h2 h3 h4 h5 h6 h7 h8 h9 h10 h11 h12 h13 h14 h15
      refine ite_yes (by rfl) ?_
      go_simp
      exact hK _ _ _ rfl (Grew.refl _) rfl
    refine ⟨?_, ?_⟩
    · intro y w2 hG hD K hK
      simp only [depsH, List.getD_cons_zero, List.getD_cons_succ, Is, and_true] at hD
      have h0 := hD.1
      have h1 := hD.2.1
      have h2 := hD.2.2.1
      have h3 := hD.2.2.2.1
      have h4 := hD.2.2.2.2.1
      have h5 := hD.2.2.2.2.2.1
      have h6 := hD.2.2.2.2.2.2.1
      have h7 := hD.2.2.2.2.2.2.2.1
      have h8 := hD.2.2.2.2.2.2.2.2.1
      have h9 := hD.2.2.2.2.2.2.2.2.2.1
      have h10 := hD.2.2.2.2.2.2.2.2.2.2.1
      have h11 := hD.2.2.2.2.2.2.2.2.2.2.2.1
      have h12 := hD.2.2.2.2.2.2.2.2.2.2.2.2.1
      have h13 := hD.2.2.2.2.2.2.2.2.2.2.2.2.2.1
      have h14 := hD.2.2.2.2.2.2.2.2.2.2.2.2.2.2.1
      have h15 := hD.2.2.2.2.2.2.2.2.2.2.2.2.2.2.2
      clear hD
      generalize hA : fillL y _ _ = A at hK ⊢
      simp only [fillL, Act.put, List.setIfInBounds_toArray, List.set_cons_zero, List.set_cons_succ, List.getD_cons_zero, List.getD_cons_succ, Is] at hA
      subst hA
      simp only [h0, h1, h2, h3, h4, h5, h6, h7, h8, h9, h10, h11, h12, h13, h14, h15] at hK ⊢
      clear h0 h1 h2 h3 h4 h5 h6 h7 h8 h9 h10 h11 h12 h13 h14 h15
      refine ite_yes (by rfl) ?_
      go_simp
      exact hK _ _ _ rfl (Grew.refl _) rfl
    refine ⟨?_, ?_⟩
    · intro y w2 hG hD K hK
      simp only [depsH, List.getD_cons_zero, List.getD_cons_succ, Is, and_true] at hD
      have h0 := hD.1
      have h1 := hD.2.1
      have h2 := hD.2.2.1
      have h3 := hD.2.2.2.1
      have h4 := hD.2.2.2.2.1
      have h5 := hD.2.2.2.2.2.1
      have h6 := hD.2.2.2.2.2.2.1
      have h7 := hD.2.2.2.2.2.2.2.1
      have h8 := hD.2.2.2.2.2.2.2.2.1
      have h9 := hD.2.2.2.2.2.2.2.2.2.1
      have h10 := hD.2.2.2.2.2.2.2.2.2.2.1
      have h11 := hD.2.2.2.2.2.2.2.2.2.2.2.1
      have h12 := hD.2.2.2.2.2.2.2.2.2.2.2.2.1
      have h13 := hD.2.2.2.2.2.2.2.2.2.2.2.2.2.1
      have h14 := hD.2.2.2.2.2.2.2.2.2.2.2.2.2.2.1
      have h15 := hD.2.2.2.2.2.2.2.2.2.2.2.2.2.2.2.1
      have h17 := hD.2.2.2.2.2.2.2.2.2.2.2.2.2.2.2.2
      clear hD
      generalize hA : fillL y _ _ = A at hK ⊢
      simp only [fillL, Act.put, List.setIfInBounds_toArray, List.set_cons_zero, List.set_cons_succ, List.getD_cons_zero, List.getD_cons_succ, Is] at hA
      subst hA
      simp only [h0, h1, h2, h3, h4, h5, h6, h7, h8, h9, h10, h11, h12, h13, h14, h15, h17] at hK ⊢
      clear h0 h1 h2 h3 h4 h5 h6 h7 h8 h9 h10 h11 h12 h13 h14 h15 h17
      refine ite_yes (by rfl) ?_
      go_simp
      exact hK _ _ _ rfl (Grew.refl _) rfl
    refine ⟨?_, ?_⟩
    · intro y w2 hG hD K hK
      simp only [depsH, List.getD_cons_zero, List.getD_cons_succ, Is, and_true] at hD
      have h0 := hD.1
      have h1 := hD.2.1
      have h2 := hD.2.2.1
      have h3 := hD.2.2.2.1
      have h4 := hD.2.2.2.2.1
      have h5 := hD.2.2.2.2.2.1
      have h6 := hD.2.2.2.2.2.2.1
      have h7 := hD.2.2.2.2.2.2.2.1
      have h8 := hD.2.2.2.2.2.2.2.2.1
      have h9 := hD.2.2.2.2.2.2.2.2.2.1
      have h10 := hD.2.2.2.2.2.2.2.2.2.2.1
      have h11 := hD.2.2.2.2.2.2.2.2.2.2.2.1
      have h12 := hD.2.2.2.2.2.2.2.2.2.2.2.2.1
      have h13 := hD.2.2.2.2.2.2.2.2.2.2.2.2.2.1
      have h14 := hD.2.2.2.2.2.2.2.2.2.2.2.2.2.2.1
      have h15 := hD.2.2.2.2.2.2.2.2.2.2.2.2.2.2.2.1
      have h16 := hD.2.2.2.2.2.2.2.2.2.2.2.2.2.2.2.2.1
      have h17 := hD.2.2.2.2.2.2.2.2.2.2.2.2.2.2.2.2.2.1
      have h18 := hD.2.2.2.2.2.2.2.2.2.2.2.2.2.2.2.2.2.2
      clear hD
      generalize hA : fillL y _ _ = A at hK ⊢
      simp only [fillL, Act.put, List.setIfInBounds_toArray, List.set_cons_zero, List.set_cons_succ, List.getD_cons_zero, List.getD_cons_succ, Is] at hA
      subst hA
      simp only [h0, h1, h2, h3, h4, h5, h6, h7, h8, h9, h10, h11, h12, h13, h14, h15, h16, h17, h18] at hK ⊢
      clear h0 h1 h2 h3 h4 h5 h6 h7 h8 h9 h10 h11 h12 h13 h14 h15 h16 h17 h18
      refine ite_yes (by rfl) ?_
      go_simp
      exact hK _ _ _ rfl (Grew.refl _) rfl
    refine ⟨?_, ?_⟩
    · intro y w2 hG hD K hK
      simp only [depsH, List.getD_cons_zero, List.getD_cons_succ, Is, and_true] at hD
      have h0 := hD.1
      have h1 := hD.2.1
      have h2 := hD.2.2.1
      have h3 := hD.2.2.2.1
      have h4 := hD.2.2.2.2.1
      have h5 := hD.2.2.2.2.2.1
      have h6 := hD.2.2.2.2.2.2.1
      have h7 := hD.2.2.2.2.2.2.2.1
      have h8 := hD.2.2.2.2.2.2.2.2.1
      have h9 := hD.2.2.2.2.2.2.2.2.2.1
      have h10 := hD.2.2.2.2.2.2.2.2.2.2.1
      have h11 := hD.2.2.2.2.2.2.2.2.2.2.2.1
      have h12 := hD.2.2.2.2.2.2.2.2.2.2.2.2.1
      have h13 := hD.2.2.2.2.2.2.2.2.2.2.2.2.2.1
      have h14 := hD.2.2.2.2.2.2.2.2.2.2.2.2.2.2.1
      have h15 := hD.2.2.2.2.2.2.2.2.2.2.2.2.2.2.2.1
      have h16 := hD.2.2.2.2.2.2.2.2.2.2.2.2.2.2.2.2.1
      have h17 := hD.2.2.2.2.2.2.2.2.2.2.2.2.2.2.2.2.2.1
      have h18 := hD.2.2.2.2.2.2.2.2.2.2.2.2.2.2.2.2.2.2.1
      have h19 := hD.2.2.2.2.2.2.2.2.2.2.2.2.2.2.2.2.2.2.2
      clear hD
      have dcz := hG.cell cz
      generalize hA : fillL y _ _ = A at hK ⊢
      simp only [fillL, Act.put, List.setIfInBounds_toArray, List.set_cons_zero, List.set_cons_succ, List.getD_cons_zero, List.getD_cons_succ, Is] at hA
      subst hA
      simp only [h0, h1, h2, h3, h4, h5, h6, h7, h8, h9, h10, h11, h12, h13, h14, h15, h16, h17, h18, h19] at hK ⊢
      clear h0 h1 h2 h3 h4 h5 h6 h7 h8 h9 h10 h11 h12 h13 h14 h15 h16 h17 h18 h19
      refine ite_yes (by rfl) ?_
      go_simp
      exact hK _ _ _ rfl (Grew.refl _) rfl
    refine ⟨?_, ?_⟩
    · intro y w2 hG hD K hK
      simp only [depsH, List.getD_cons_zero, List.getD_cons_succ, Is, and_true] at hD
      have h0 := hD.1
      have h1 := hD.2.1
      have h2 := hD.2.2.1
      have h3 := hD.2.2.2.1
      have h4 := hD.2.2.2.2.1
      have h5 := hD.2.2.2.2.2.1
      have h6 := hD.2.2.2.2.2.2.1
      have h7 := hD.2.2.2.2.2.2.2.1
      have h8 := hD.2.2.2.2.2.2.2.2.1
      have h9 := hD.2.2.2.2.2.2.2.2.2.1
      have h10 := hD.2.2.2.2.2.2.2.2.2.2.1
      have h11 := hD.2.2.2.2.2.2.2.2.2.2.2.1
      have h12 := hD.2.2.2.2.2.2.2.2.2.2.2.2.1
      have h13 := hD.2.2.2.2.2.2.2.2.2.2.2.2.2.1
      have h14 := hD.2.2.2.2.2.2.2.2.2.2.2.2.2.2.1
      have h15 := hD.2.2.2.2.2.2.2.2.2.2.2.2.2.2.2
      clear hD
      generalize hA : fillL y _ _ = A at hK ⊢
      simp only [fillL, Act.put, List.setIfInBounds_toArray, List.set_cons_zero, List.set_cons_succ, List.getD_cons_zero, List.getD_cons_succ, Is] at hA
      subst hA
      simp only [h0, h1, h2, h3, h4, h5, h6, h7, h8, h9, h10, h11, h12, h13, h14, h15] at hK ⊢
      clear h0 h1 h2 h3 h4 h5 h6 h7 h8 h9 h10 h11 h12 h13 h14 h15
      refine ite_yes (by rfl) ?_
      go_simp
      exact hK _ _ _ rfl (Grew.refl _) rfl
    refine ⟨?_, ?_⟩
    · intro y w2 hG hD K hK
      simp only [depsH, List.getD_cons_zero, List.getD_cons_succ, Is, and_true] at hD
      have h0 := hD.1
      have h1 := hD.2.1
      have h2 := hD.2.2.1
      have h3 := hD.2.2.2.1
      have h4 := hD.2.2.2.2.1
      have h5 := hD.2.2.2.2.2.1
      have h6 := hD.2.2.2.2.2.2.1
      have h7 := hD.2.2.2.2.2.2.2.1
      have h8 := hD.2.2.2.2.2.2.2.2.1
      have h9 := hD.2.2.2.2.2.2.2.2.2.1
      have h10 := hD.2.2.2.2.2.2.2.2.2.2.1
      have h11 := hD.2.2.2.2.2.2.2.2.2.2.2.1
      have h12 := hD.2.2.2.2.2.2.2.2.2.2.2.2.1
      have h13 := hD.2.2.2.2.2.2.2.2.2.2.2.2.2.1
      have h14 := hD.2.2.2.2.2.2.2.2.2.2.2.2.2.2.1
      have h15 := hD.2.2.2.2.2.2.2.2.2.2.2.2.2.2.2
      clear hD
      generalize hA : fillL y _ _ = A at hK ⊢
      simp only [fillL, Act.put, List.setIfInBounds_toArray, List.set_cons_zero, List.set_cons_succ, List.getD_cons_zero, List.getD_cons_succ, Is] at hA
      subst hA
      simp only [h0, h1, h2, h3, h4, h5, h6, h7, h8, h9, h10, h11, h12, h13, h14, h15] at hK ⊢
      clear h0 h1 h2 h3 h4 h5 h6 h7 h8 h9 h10 h11 h12 h13 h14 h15
      refine ite_yes (by rfl) ?_
      go_simp
      exact hK _ _ _ rfl (Grew.refl _) rfl
    refine ⟨?_, ?_⟩
    · intro y w2 hG hD K hK
      simp only [depsH, List.getD_cons_zero, List.getD_cons_succ, Is, and_true] at hD
      have h0 := hD.1
      have h1 := hD.2.1
      have h2 := hD.2.2.1
      have h3 := hD.2.2.2.1
      have h4 := hD.2.2.2.2.1
      have h5 := hD.2.2.2.2.2.1
      have h6 := hD.2.2.2.2.2.2.1
      have h7 := hD.2.2.2.2.2.2.2.1
      have h8 := hD.2.2.2.2.2.2.2.2.1
      have h9 := hD.2.2.2.2.2.2.2.2.2.1
      have h10 := hD.2.2.2.2.2.2.2.2.2.2.1
      have h11 := hD.2.2.2.2.2.2.2.2.2.2.2.1
      have h12 := hD.2.2.2.2.2.2.2.2.2.2.2.2.1
      have h13 := hD.2.2.2.2.2.2.2.2.2.2.2.2.2.1
      have h14 := hD.2.2.2.2.2.2.2.2.2.2.2.2.2.2.1
      have h15 := hD.2.2.2.2.2.2.2.2.2.2.2.2.2.2.2.1
      have h21 := hD.2.2.2.2.2.2.2.2.2.2.2.2.2.2.2.2.1
      have h22 := hD.2.2.2.2.2.2.2.2.2.2.2.2.2.2.2.2.2
      clear hD
      generalize hA : fillL y _ _ = A at hK ⊢
      simp only [fillL, Act.put, List.setIfInBounds_toArray, List.set_cons_zero, List.set_cons_succ, List.getD_cons_zero, List.getD_cons_succ, Is] at hA
      subst hA
      simp only [h0, h1, h2, h3, h4, h5, h6, h7, h8, h9, h10, h11, h12, h13, h14, h15, h21, h22] at hK ⊢
      clear h0 h1 h2 h3 h4 h5 h6 h7 h8 h9 h10 h11 h12 h13 h14 h15 h21 h22
      refine ite_yes (by rfl) ?_
      go_simp
      exact hK _ _ _ rfl (Grew.refl _) rfl
    refine ⟨?_, ?_⟩
    · intro y w2 hG hD K hK
      simp only [depsH, List.getD_cons_zero, List.getD_cons_succ, Is, and_true] at hD
      have h0 := hD.1
      have h1 := hD.2.1
      have h2 := hD.2.2.1
      have h3 := hD.2.2.2.1
      have h4 := hD.2.2.2.2.1
      have h5 := hD.2.2.2.2.2.1
      have h6 := hD.2.2.2.2.2.2.1
      have h7 := hD.2.2.2.2.2.2.2.1
      have h8 := hD.2.2.2.2.2.2.2.2.1
      have h9 := hD.2.2.2.2.2.2.2.2.2.1
      have h10 := hD.2.2.2.2.2.2.2.2.2.2.1
      have h11 := hD.2.2.2.2.2.2.2.2.2.2.2.1
      have h12 := hD.2.2.2.2.2.2.2.2.2.2.2.2.1
      have h13 := hD.2.2.2.2.2.2.2.2.2.2.2.2.2.1
      have h14 := hD.2.2.2.2.2.2.2.2.2.2.2.2.2.2.1
      have h15 := hD.2.2.2.2.2.2.2.2.2.2.2.2.2.2.2.1
      have h21 := hD.2.2.2.2.2.2.2.2.2.2.2.2.2.2.2.2.1
      have h22 := hD.2.2.2.2.2.2.2.2.2.2.2.2.2.2.2.2.2.1
      have h23 := hD.2.2.2.2.2.2.2.2.2.2.2.2.2.2.2.2.2.2
      clear hD
      have dcy := hG.cell cy
      generalize hA : fillL y _ _ = A at hK ⊢
      simp only [fillL, Act.put, List.setIfInBounds_toArray, List.set_cons_zero, List.set_cons_succ, List.getD_cons_zero, List.getD_cons_succ, Is] at hA
      subst hA
      simp only [h0, h1, h2, h3, h4, h5, h6, h7, h8, h9, h10, h11, h12, h13, h14, h15, h21, h22, h23] at hK ⊢
      clear h0 h1 h2 h3 h4 h5 h6 h7 h8 h9 h10 h11 h12 h13 h14 h15 h21 h22 h23
      refine ite_yes (by rfl) ?_
      go_simp
      exact hK _ _ _ rfl (Grew.refl _) rfl
    refine ⟨?_, ?_⟩
    · intro y w2 hG hD K hK
      simp only [depsH, List.getD_cons_zero, List.getD_cons_succ, Is, and_true] at hD
      have h0 := hD.1
      have h1 := hD.2.1
      have h2 := hD.2.2.1
      have h3 := hD.2.2.2.1
      have h4 := hD.2.2.2.2.1
      have h5 := hD.2.2.2.2.2.1
      have h6 := hD.2.2.2.2.2.2.1
      have h7 := hD.2.2.2.2.2.2.2.1
      have h8 := hD.2.2.2.2.2.2.2.2.1
      have h9 := hD.2.2.2.2.2.2.2.2.2.1
      have h10 := hD.2.2.2.2.2.2.2.2.2.2.1
      have h11 := hD.2.2.2.2.2.2.2.2.2.2.2.1
      have h12 := hD.2.2.2.2.2.2.2.2.2.2.2.2.1
      have h13 := hD.2.2.2.2.2.2.2.2.2.2.2.2.2.1
      have h14 := hD.2.2.2.2.2.2.2.2.2.2.2.2.2.2.1
      have h15 := hD.2.2.2.2.2.2.2.2.2.2.2.2.2.2.2.1
      have h16 := hD.2.2.2.2.2.2.2.2.2.2.2.2.2.2.2.2.1
      have h17 := hD.2.2.2.2.2.2.2.2.2.2.2.2.2.2.2.2.2.1
      have h18 := hD.2.2.2.2.2.2.2.2.2.2.2.2.2.2.2.2.2.2.1
      have h19 := hD.2.2.2.2.2.2.2.2.2.2.2.2.2.2.2.2.2.2.2.1
      have h20 := hD.2.2.2.2.2.2.2.2.2.2.2.2.2.2.2.2.2.2.2.2.1
      have h21 := hD.2.2.2.2.2.2.2.2.2.2.2.2.2.2.2.2.2.2.2.2.2.1
      have h22 := hD.2.2.2.2.2.2.2.2.2.2.2.2.2.2.2.2.2.2.2.2.2.2.1
      have h23 := hD.2.2.2.2.2.2.2.2.2.2.2.2.2.2.2.2.2.2.2.2.2.2.2.1
      have h24 := hD.2.2.2.2.2.2.2.2.2.2.2.2.2.2.2.2.2.2.2.2.2.2.2.2
      clear hD
      generalize hA : fillL y _ _ = A at hK ⊢
      simp only [fillL, Act.put, List.setIfInBounds_toArray, List.set_cons_zero, List.set_cons_succ, List.getD_cons_zero, List.getD_cons_succ, Is] at hA
      subst hA
      simp only [h0, h1, h2, h3, h4, h5, h6, h7, h8, h9, h10, h11, h12, h13, h14, h15, h16, h17, h18, h19, h20, h21, h22, h23, h24] at hK ⊢
      clear h0 h1 h2 h3 h4 h5 h6 h7 h8 h9 h10 h11 h12 h13 h14 h15 h16 h17 h18 h19 h20 h21 h22 h23 h24
      refine ite_yes (by rfl) ?_
      go_simp
      refine (rless_any z _ w2 HZZ.out HYZ.out).mono ?_
      rintro r w3 ⟨rfl, q, rfl⟩
      exact hK _ _ _ rfl ((Grew.refl _).drewN q) (congrArg Value.bool HLT.out)
    refine ⟨?_, ?_⟩
    · intro y w2 hG hD K hK
      simp only [depsH, List.getD_cons_zero, List.getD_cons_succ, Is, and_true] at hD
      have h0 := hD.1
      have h1 := hD.2.1
      have h2 := hD.2.2.1
      have h3 := hD.2.2.2.1
      have h4 := hD.2.2.2.2.1
      have h5 := hD.2.2.2.2.2.1
      have h6 := hD.2.2.2.2.2.2.1
      have h7 := hD.2.2.2.2.2.2.2.1
      have h8 := hD.2.2.2.2.2.2.2.2.1
      have h9 := hD.2.2.2.2.2.2.2.2.2.1
      have h10 := hD.2.2.2.2.2.2.2.2.2.2.1
      have h11 := hD.2.2.2.2.2.2.2.2.2.2.2.1
      have h12 := hD.2.2.2.2.2.2.2.2.2.2.2.2.1
      have h13 := hD.2.2.2.2.2.2.2.2.2.2.2.2.2.1
      have h14 := hD.2.2.2.2.2.2.2.2.2.2.2.2.2.2.1
      have h15 := hD.2.2.2.2.2.2.2.2.2.2.2.2.2.2.2.1
      have h16 := hD.2.2.2.2.2.2.2.2.2.2.2.2.2.2.2.2.1
      have h17 := hD.2.2.2.2.2.2.2.2.2.2.2.2.2.2.2.2.2.1
      have h18 := hD.2.2.2.2.2.2.2.2.2.2.2.2.2.2.2.2.2.2.1
      have h19 := hD.2.2.2.2.2.2.2.2.2.2.2.2.2.2.2.2.2.2.2.1
      have h20 := hD.2.2.2.2.2.2.2.2.2.2.2.2.2.2.2.2.2.2.2.2.1
      have h21 := hD.2.2.2.2.2.2.2.2.2.2.2.2.2.2.2.2.2.2.2.2.2.1
      have h22 := hD.2.2.2.2.2.2.2.2.2.2.2.2.2.2.2.2.2.2.2.2.2.2.1
      have h23 := hD.2.2.2.2.2.2.2.2.2.2.2.2.2.2.2.2.2.2.2.2.2.2.2.1
      have h24 := hD.2.2.2.2.2.2.2.2.2.2.2.2.2.2.2.2.2.2.2.2.2.2.2.2.1
      have h25 := hD.2.2.2.2.2.2.2.2.2.2.2.2.2.2.2.2.2.2.2.2.2.2.2.2.2
      clear hD
      generalize hA : fillL y _ _ = A at hK ⊢
      simp only [fillL, Act.put, List.setIfInBounds_toArray, List.set_cons_zero, List.set_cons_succ, List.getD_cons_zero, List.getD_cons_succ, Is] at hA
      subst hA
      simp only [h0, h1, h2, h3, h4, h5, h6, h7, h8, h9, h10, h11, h12, h13, h14, h15, h16, h17, h18, h19, h20, h21, h22, h23, h24, h25] at hK ⊢
      clear h0 h1 h2 h3 h4 h5 h6 h7 h8 h9 h10 h11 h12 h13 h14 h15 h16 h17 h18 h19 h20 h21 h22 h23 h24 h25
      refine ite_yes (by rfl) ?_
      go_simp
      exact hK _ _ _ rfl (Grew.refl _) rfl
    refine ⟨?_, ?_⟩
    · intro y w2 hG hD K hK
      simp only [depsH, List.getD_cons_zero, List.getD_cons_succ, Is, and_true] at hD
      have h0 := hD.1
      have h1 := hD.2.1
      have h2 := hD.2.2.1
      have h3 := hD.2.2.2.1
      have h4 := hD.2.2.2.2.1
      have h5 := hD.2.2.2.2.2.1
      have h6 := hD.2.2.2.2.2.2.1
      have h7 := hD.2.2.2.2.2.2.2.1
      have h8 := hD.2.2.2.2.2.2.2.2.1
      have h9 := hD.2.2.2.2.2.2.2.2.2.1
      have h10 := hD.2.2.2.2.2.2.2.2.2.2.1
      have h11 := hD.2.2.2.2.2.2.2.2.2.2.2.1
      have h12 := hD.2.2.2.2.2.2.2.2.2.2.2.2.1
      have h13 := hD.2.2.2.2.2.2.2.2.2.2.2.2.2.1
      have h14 := hD.2.2.2.2.2.2.2.2.2.2.2.2.2.2.1
      have h15 := hD.2.2.2.2.2.2.2.2.2.2.2.2.2.2.2.1
      have h16 := hD.2.2.2.2.2.2.2.2.2.2.2.2.2.2.2.2.1
      have h17 := hD.2.2.2.2.2.2.2.2.2.2.2.2.2.2.2.2.2.1
      have h18 := hD.2.2.2.2.2.2.2.2.2.2.2.2.2.2.2.2.2.2.1
      have h19 := hD.2.2.2.2.2.2.2.2.2.2.2.2.2.2.2.2.2.2.2.1
      have h20 := hD.2.2.2.2.2.2.2.2.2.2.2.2.2.2.2.2.2.2.2.2.1
      have h21 := hD.2.2.2.2.2.2.2.2.2.2.2.2.2.2.2.2.2.2.2.2.2.1
      have h22 := hD.2.2.2.2.2.2.2.2.2.2.2.2.2.2.2.2.2.2.2.2.2.2.1
      have h23 := hD.2.2.2.2.2.2.2.2.2.2.2.2.2.2.2.2.2.2.2.2.2.2.2.1
      have h24 := hD.2.2.2.2.2.2.2.2.2.2.2.2.2.2.2.2.2.2.2.2.2.2.2.2.1
      have h25 := hD.2.2.2.2.2.2.2.2.2.2.2.2.2.2.2.2.2.2.2.2.2.2.2.2.2.1
      have h26 := hD.2.2.2.2.2.2.2.2.2.2.2.2.2.2.2.2.2.2.2.2.2.2.2.2.2.2
      clear hD
      generalize hA : fillL y _ _ = A at hK ⊢
      simp only [fillL, Act.put, List.setIfInBounds_toArray, List.set_cons_zero, List.set_cons_succ, List.getD_cons_zero, List.getD_cons_succ, Is] at hA
      subst hA
      simp only [h0, h1, h2, h3, h4, h5, h6, h7, h8, h9, h10, h11, h12, h13, h14, h15, h16, h17, h18, h19, h20, h21, h22, h23, h24, h25, h26] at hK ⊢
      clear h0 h1 h2 h3 h4 h5 h6 h7 h8 h9 h10 h11 h12 h13 h14 h15 h16 h17 h18 h19 h20 h21 h22 h23 h24 h25 h26
      refine ite_yes (by rfl) ?_
      go_simp
      exact hK _ _ _ rfl (Grew.refl _) rfl
    refine ⟨?_, ?_⟩
    · intro y w2 hG hD K hK
      simp only [depsH, List.getD_cons_zero, List.getD_cons_succ, Is, and_true] at hD
      have h0 := hD.1
      have h1 := hD.2.1
      have h2 := hD.2.2.1
      have h3 := hD.2.2.2.1
      have h4 := hD.2.2.2.2.1
      have h5 := hD.2.2.2.2.2.1
      have h6 := hD.2.2.2.2.2.2.1
      have h7 := hD.2.2.2.2.2.2.2.1
      have h8 := hD.2.2.2.2.2.2.2.2.1
      have h9 := hD.2.2.2.2.2.2.2.2.2.1
      have h10 := hD.2.2.2.2.2.2.2.2.2.2.1
      have h11 := hD.2.2.2.2.2.2.2.2.2.2.2.1
      have h12 := hD.2.2.2.2.2.2.2.2.2.2.2.2.1
      have h13 := hD.2.2.2.2.2.2.2.2.2.2.2.2.2.1
      have h14 := hD.2.2.2.2.2.2.2.2.2.2.2.2.2.2.1
      have h15 := hD.2.2.2.2.2.2.2.2.2.2.2.2.2.2.2.1
      have h16 := hD.2.2.2.2.2.2.2.2.2.2.2.2.2.2.2.2.1
      have h17 := hD.2.2.2.2.2.2.2.2.2.2.2.2.2.2.2.2.2.1
      have h18 := hD.2.2.2.2.2.2.2.2.2.2.2.2.2.2.2.2.2.2.1
      have h19 := hD.2.2.2.2.2.2.2.2.2.2.2.2.2.2.2.2.2.2.2.1
      have h20 := hD.2.2.2.2.2.2.2.2.2.2.2.2.2.2.2.2.2.2.2.2.1
      have h21 := hD.2.2.2.2.2.2.2.2.2.2.2.2.2.2.2.2.2.2.2.2.2.1
      have h22 := hD.2.2.2.2.2.2.2.2.2.2.2.2.2.2.2.2.2.2.2.2.2.2.1
      have h23 := hD.2.2.2.2.2.2.2.2.2.2.2.2.2.2.2.2.2.2.2.2.2.2.2.1
      have h24 := hD.2.2.2.2.2.2.2.2.2.2.2.2.2.2.2.2.2.2.2.2.2.2.2.2.1
      have h25 := hD.2.2.2.2.2.2.2.2.2.2.2.2.2.2.2.2.2.2.2.2.2.2.2.2.2.1
      have h26 := hD.2.2.2.2.2.2.2.2.2.2.2.2.2.2.2.2.2.2.2.2.2.2.2.2.2.2.1
      have h27 := hD.2.2.2.2.2.2.2.2.2.2.2.2.2.2.2.2.2.2.2.2.2.2.2.2.2.2.2
      clear hD
      generalize hA : fillL y _ _ = A at hK ⊢
      simp only [fillL, Act.put, List.setIfInBounds_toArray, List.set_cons_zero, List.set_cons_succ, List.getD_cons_zero, List.getD_cons_succ, Is] at hA
      subst hA
      simp only [h0, h1, h2, h3, h4, h5, h6, h7, h8, h9, h10, h11, h12, h13, h14, h15, h16, h17, h18, h19, h20, h21, h22, h23, h24, h25, h26, h27] at hK ⊢
      clear h0 h1 h2 h3 h4 h5 h6 h7 h8 h9 h10 h11 h12 h13 h14 h15 h16 h17 h18 h19 h20 h21 h22 h23 h24 h25 h26 h27
      refine ite_yes (by rfl) ?_
      go_simp
      exact hK _ _ _ rfl (Grew.refl _) rfl
    trivial
theorem rkeys_any (d : List UInt8) (l : List ByteArray) (hl : l.length ≤ 4096) (hs : ∀ x ∈ l, x.size ≤ 1000) : RKeys d l :=
  rkeys_walk d l hl fun y hy dv pos par wid lim tv w hD hn hp => rsays_any d 4 (keyTr y) (fun _ h => absurd h (by decide)) (hs y hy) dv pos par wid lim tv w hD hn hp
theorem rlist_all (d : List UInt8) : ∀ (m : Nat) (t : Tr), t.size ≤ m → okS t → ∀ typ, VecR d typ t := by
  intro m
  induction m with
  | zero => intro t h; have := t.size_pos; omega
  | succ m ih =>
    intro t h ho typ
    obtain ⟨k, n, u, s, keys, l⟩ := t
    rw [okS_eq] at ho
    obtain ⟨h1, h2, h3, h4, h5⟩ := ho
    refine vec_walk d typ k n u s keys l h4 h3 (fun x hx typ' _ => ?_) (fun _ => rkeys_any d keys h3 h2)
    have hsz := size_mem hx
    simp only [Tr.size] at h
    have hx5 := h5 x hx
    intro dv pos par wid lim tv w hD hn hp
    refine rsays_any d typ' x (fun _ _ => ih x (by omega) hx5 typ') ?_ dv pos par wid lim tv w hD hn hp
    obtain ⟨xk, xn, xu, xs, xkeys, xl⟩ := x
    rw [okS_eq] at hx5
    exact hx5.1
/-- **The reference's says, whatever the reference and the tree.** -/
theorem rsays_all (d : List UInt8) (typ : Int) (t : Tr) (ho : okS t) : RSays d typ t := by
  intro dv pos par wid lim tv w hD hn hp
  refine rsays_any d typ t (fun _ _ => rlist_all d t.size t (Nat.le_refl _) ho typ) ?_ dv pos par wid lim tv w hD hn hp
  obtain ⟨xk, xn, xu, xs, xkeys, xl⟩ := t
  rw [okS_eq] at ho
  exact ho.1
end Go.Proofs.Ytlhliolknaopjaa

/-
  Denote: the reference's At and Holds; a reference as an argument. Conditions: the bytes, the tree lie in memory; the tree is small.
-/
namespace Go.Proofs.Ytlhliolknaopjaa
open Go Go.ChangeShapes Go.WideShapes Go.ChangeAt Go.RowKit Go.Joins Go.Deep
set_option linter.unusedVariables false
set_option linter.unusedSimpArgs false

theorem cells_ref : Try.prog.cellsOf 35 = 4 := by kernel_rfl
set_option maxRecDepth 100000 in
theorem open_ref {H : Type} {enc : TypeId × Value → H} {W : World} {base : Nat} {v : Value} {d : DataW H} {p : List MemPlace} (o : Value.okWide Try.prog W .any base 35 v) (k : DataW.Trod enc Try.prog W 0 (fun _ => true) true 35 v d p) : ∃ a b c e : Int, v = .agg #[.int .i64 a, .int .i64 b, .int .i64 c, .int .i64 e] ∧ i64ok a := by
  simp only [Value.okWide, Try.underlying35] at o
  obtain ⟨cs, rfl, hsz, _⟩ := o
  obtain ⟨fuel, hf⟩ := k
  obtain ⟨xs, n1, e1, _, hcl, hlen, hg⟩ := DataW.trod_struct Try.underlying35 hf
  rw [cells_ref] at hcl
  obtain ⟨l⟩ := cs
  simp only [Value.cells] at hcl hg
  match l, hcl with
  | [c0, c1, c2, c3], _ =>
    match xs, hlen with
    | [y0, y1, y2, y3], _ =>
      have g0 := hg 0 _ rfl
      have g1 := hg 1 _ rfl
      have g2 := hg 2 _ rfl
      have g3 := hg 3 _ rfl
      simp [cells_nint] at g0 g1 g2 g3
      obtain ⟨x0, q0, _, w0⟩ := DataW.trod_int Try.underlying3 g0
      obtain ⟨x1, q1, _, w1⟩ := DataW.trod_int Try.underlying3 g1
      obtain ⟨x2, q2, _, w2⟩ := DataW.trod_int Try.underlying3 g2
      obtain ⟨x3, q3, _, w3⟩ := DataW.trod_int Try.underlying3 g3
      simp at q0 q1 q2 q3
      subst q0 q1 q2 q3
      exact ⟨x0, x1, x2, x3, rfl, i64_of w0⟩
set_option maxRecDepth 100000 in
set_option maxHeartbeats 4000000 in
theorem rAt_any (d : List UInt8) (dv : Value) (pos par typ wid : Int) (t : Tr) (ho : okS t) (tv : Value) (w : World) (hD : DocAt w dv d) (hn : NodeAt w t tv) (hp : i64ok pos) : Calls Try.prog 16 #[dv, .agg #[.int .i64 pos, .int .i64 par, .int .i64 typ, .int .i64 wid], tv] w fun r w' => r = .returned (.bool (saysF d typ pos par wid pos t)) ∧ Grew w w' := by
  have HD := Lib.hid hD
  have HT := Lib.hid hn
  obtain ⟨da, dc, rfl, _⟩ := hD.form
  obtain ⟨tk, tn, tu, ts, ta4, tn4, tc4, ta5, tn5, tc5, rfl⟩ := hn.node6
  clear hD hn
  have HG := Lib.hid (Grew.refl w)
  obtain ⟨res, hres⟩ : ∃ b, saysF d typ pos par wid pos t = b := ⟨_, rfl⟩
  have hs := rsays_all d typ t ho (.slice da d.length dc) pos par wid pos (.agg #[.int .i64 tk, .int .i64 tn, .int .u64 tu, .string ts, .slice ta4 tn4 tc4, .slice ta5 tn5 tc5])
  rw [hres] at hs ⊢
  have HS := Lib.hid hs
  clear hs hres
  go_enter Try.func16, Try.ntmps16
  go_upto_region 1 with fail
  obtain ⟨pr, hpr⟩ : ∃ N, w.heap.size = N := ⟨_, rfl⟩
  have hr1 := heap_alloc_new w (.cells #[.int .i64 pos, .int .i64 par, .int .i64 typ, .int .i64 wid] 35)
  have hga := (Grew.refl w).alloc (.cells #[.int .i64 pos, .int .i64 par, .int .i64 typ, .int .i64 wid] 35)
  have hz1 : (w.alloc (.cells #[.int .i64 pos, .int .i64 par, .int .i64 typ, .int .i64 wid] 35)).heap.size = pr + 1 := by rw [World.size_alloc, hpr]
  generalize (w.alloc (.cells #[.int .i64 pos, .int .i64 par, .int .i64 typ, .int .i64 wid] 35)) = x1 at *
  rw [hpr] at hr1
  try rw [hpr]
  have HRR := Lib.hid hr1
  clear hr1 hpr
  replace HD := Lib.hid (DocAt.grew HD.out hga)
  replace HT := Lib.hid (NodeAt.grew hga HT.out)
  replace HG := Lib.hid (HG.out.trans hga)
  clear hga
  have hr2 := heap_alloc_new x1 (.cells #[.int .i64 tk, .int .i64 tn, .int .u64 tu, .string ts, .slice ta4 tn4 tc4, .slice ta5 tn5 tc5] 27)
  have hga := (Grew.refl x1).alloc (.cells #[.int .i64 tk, .int .i64 tn, .int .u64 tu, .string ts, .slice ta4 tn4 tc4, .slice ta5 tn5 tc5] 27)
  generalize (x1.alloc (.cells #[.int .i64 tk, .int .i64 tn, .int .u64 tu, .string ts, .slice ta4 tn4 tc4, .slice ta5 tn5 tc5] 27)) = x2 at *
  rw [hz1] at hr2
  try rw [hz1]
  have HRT := Lib.hid hr2
  clear hr2 hz1
  replace HD := Lib.hid (DocAt.grew HD.out hga)
  replace HT := Lib.hid (NodeAt.grew hga HT.out)
  replace HRR := Lib.hid (hga.heap HRR.out)
  replace HG := Lib.hid (HG.out.trans hga)
  clear hga
  have c0 := row_cellT HRR.out 0 _ rfl
  have c1 := row_cellT HRR.out 1 _ rfl
  have c2 := row_cellT HRR.out 2 _ rfl
  have c3 := row_cellT HRR.out 3 _ rfl
  have e0 := row_cellT HRT.out 0 _ rfl
  have e1 := row_cellT HRT.out 1 _ rfl
  have e2 := row_cellT HRT.out 2 _ rfl
  have e3 := row_cellT HRT.out 3 _ rfl
  have e4 := row_cellT HRT.out 4 _ rfl
  have e5 := row_cellT HRT.out 5 _ rfl
  go_wp2_with fail
  refine (HS.out _ HD.out HT.out hp).mono ?_
  rintro r u1 ⟨rfl, hgc⟩
  replace HD := Lib.hid (DocAt.grew HD.out hgc)
  replace HT := Lib.hid (NodeAt.grew hgc HT.out)
  replace HRR := Lib.hid (hgc.heap HRR.out)
  replace HRT := Lib.hid (hgc.heap HRT.out)
  replace HG := Lib.hid (HG.out.trans hgc)
  clear hgc
  clear c0 c1 c2 c3
  clear e0 e1 e2 e3 e4 e5
  go_wp2_with fail
  go_ret
  exact ⟨rfl, HG.out⟩
set_option maxRecDepth 100000 in
set_option maxHeartbeats 4000000 in
theorem rHolds_any (d : List UInt8) (dv : Value) (t : Tr) (ho : okS t) (tv : Value) (w : World) (hD : DocAt w dv d) (hn : NodeAt w t tv) : Calls Try.prog 11 #[dv, tv] w fun r w' => r = .returned (.bool (holdsF d t)) ∧ Grew w w' := by
  have HD := Lib.hid hD
  have HT := Lib.hid hn
  have hdl := hD.2.1
  obtain ⟨da, dc, rfl, hdc⟩ := hD.form
  obtain ⟨tk, tn, tu, ts, ta4, tn4, tc4, ta5, tn5, tc5, rfl⟩ := hn.node6
  clear hD hn
  have HG := Lib.hid (Grew.refl w)
  obtain ⟨res, hres⟩ : ∃ b, holdsF d t = b := ⟨_, rfl⟩
  rw [hres]
  have HRES := Lib.hid hres
  clear hres
  unfold holdsF at HRES
  go_enter Try.func11, Try.ntmps11
  go_upto_region 1 with fail
  obtain ⟨pr, hpr⟩ : ∃ N, w.heap.size = N := ⟨_, rfl⟩
  have hr1 := heap_alloc_new w (.cells #[.int .i64 tk, .int .i64 tn, .int .u64 tu, .string ts, .slice ta4 tn4 tc4, .slice ta5 tn5 tc5] 27)
  have hga := (Grew.refl w).alloc (.cells #[.int .i64 tk, .int .i64 tn, .int .u64 tu, .string ts, .slice ta4 tn4 tc4, .slice ta5 tn5 tc5] 27)
  have hz1 : (w.alloc (.cells #[.int .i64 tk, .int .i64 tn, .int .u64 tu, .string ts, .slice ta4 tn4 tc4, .slice ta5 tn5 tc5] 27)).heap.size = pr + 1 := by rw [World.size_alloc, hpr]
  generalize (w.alloc (.cells #[.int .i64 tk, .int .i64 tn, .int .u64 tu, .string ts, .slice ta4 tn4 tc4, .slice ta5 tn5 tc5] 27)) = x1 at *
  rw [hpr] at hr1
  try rw [hpr]
  have HRT := Lib.hid hr1
  clear hr1 hpr
  replace HD := Lib.hid (DocAt.grew HD.out hga)
  replace HT := Lib.hid (NodeAt.grew hga HT.out)
  replace HG := Lib.hid (HG.out.trans hga)
  clear hga
  clear hz1
  by_cases h3 : 3 ≤ d.length
  rotate_left
  · have hl3 : (d.length : Int) < 3 := by omega
    have HV : Hid (res = false) := by show _ = _; rw [← HRES.out]; simp [h3]
    go_wp2_with fail
    go_ret
    exact ⟨by rw [HV.out]; rfl, HG.out⟩
  have hl1 : d.length - 1 < d.length := by omega
  have hl2 : d.length - 2 < d.length := by omega
  obtain ⟨b1, hb1⟩ : ∃ b, d[d.length - 1]? = some b := ⟨_, List.getElem?_eq_getElem hl1⟩
  obtain ⟨b2, hb2⟩ : ∃ b, d[d.length - 2]? = some b := ⟨_, List.getElem?_eq_getElem hl2⟩
  obtain ⟨bl, bo, rfl, hc1⟩ : ∃ bl bo, da = some ⟨bl, bo, none⟩ ∧ x1.cell? ⟨bl, bo + (d.length - 1), none⟩ = some (.int .u8 b1.toNat) := by
    obtain ⟨⟨a, c, e, _, _, h⟩, _⟩ := HD.out
    cases e
    obtain ⟨bl, bo, e, hc⟩ := h _ b1 hb1
    exact ⟨bl, bo, e, hc⟩
  have hc2 : x1.cell? ⟨bl, bo + (d.length - 2), none⟩ = some (.int .u8 b2.toNat) := by
    obtain ⟨⟨a, c, e, _, _, h⟩, _⟩ := HD.out
    cases e
    obtain ⟨bl', bo', e, hc⟩ := h _ b2 hb2
    cases e
    exact hc
  have e1 : lastB d 1 = (b1.toNat : Int) := by unfold lastB; rw [hb1]; rfl
  rw [e1, hb2] at HRES
  simp only [Option.getD_some] at HRES
  have hbn : b1.toNat < 256 := UInt8.toNat_lt _
  obtain ⟨x, hx⟩ : ∃ x : Int, (b1.toNat : Int) = x := ⟨_, rfl⟩
  rw [hx] at HRES hc1
  have hx0 : 0 ≤ x ∧ x < 256 := by omega
  have hun := fun w => runpack_any b2.toNat w (UInt8.toNat_lt _)
  obtain ⟨un, hun2⟩ : ∃ q, Ft.unpackF b2.toNat = q := ⟨_, rfl⟩
  rw [hun2] at hun
  simp only [hun2] at HRES
  have HUN := Lib.hid hun
  clear hun hun2 e1 hx hbn hb1 hb2 hl1 hl2
  obtain ⟨own, wide, ue⟩ := un
  simp only at HUN HRES
  have hw1 : IntKind.i64.wrap ((d.length : Int) - 1) = (d.length : Int) - 1 := by rw [IntKind.wrap_i64]; omega
  have hw2 : IntKind.i64.wrap ((d.length : Int) - 2) = (d.length : Int) - 2 := by rw [IntKind.wrap_i64]; omega
  have hn1 : ((d.length : Int) - 1).toNat = d.length - 1 := by omega
  have hn2 : ((d.length : Int) - 2).toNat = d.length - 2 := by omega
  have hg1 : 0 ≤ (d.length : Int) - 1 ∧ (d.length : Int) - 1 < d.length := by omega
  have hg2 : 0 ≤ (d.length : Int) - 2 ∧ (d.length : Int) - 2 < d.length := by omega
  have hwx : IntKind.i64.wrap x = x := by rw [IntKind.wrap_i64]; omega
  obtain ⟨ps, hps⟩ : ∃ p : Int, (d.length : Int) - 2 - x = p := ⟨_, rfl⟩
  have hw3 : IntKind.i64.wrap ((d.length : Int) - 2 - x) = ps := by rw [IntKind.wrap_i64]; omega
  have hpr : -256 ≤ ps ∧ ps ≤ 1048576 := by omega
  rw [hps] at HRES
  clear hps
  go_wp2_with fail
  refine (HUN.out _).mono ?_
  rintro r u1 ⟨rfl, rfl⟩
  clear hc1 hc2
  go_wp2_with fail
  obtain ⟨bw, hbw⟩ : ∃ b, isW x = b := ⟨_, rfl⟩
  have HWD : Hid (∀ w, Calls Try.prog 26 #[.int .i64 x] w fun r w' => r = .returned (.bool bw) ∧ w' = w) := fun w => by rw [← hbw]; exact rw27_any x w
  refine (HWD.out u1).mono ?_
  rintro r u2 ⟨rfl, rfl⟩
  cases bw
  · have HV : Hid (res = false) := by show _ = _; rw [← HRES.out, hbw]; simp
    go_wp2_with fail
    go_ret
    exact ⟨by rw [HV.out]; rfl, HG.out⟩
  by_cases hue : ue = 0
  rotate_left
  · have hbu : (ue != 0) = true := by simpa using hue
    have HV : Hid (res = false) := by show _ = _; rw [← HRES.out]; simp [hue]
    go_wp2_with fail
    go_ret
    exact ⟨by rw [HV.out]; rfl, HG.out⟩
  subst hue
  by_cases hp0 : 0 ≤ ps
  rotate_left
  · have hlt0 : ps < 0 := by omega
    have HV : Hid (res = false) := by show _ = _; rw [← HRES.out]; simp [hp0]
    go_wp2_with fail
    go_ret
    exact ⟨by rw [HV.out]; rfl, HG.out⟩
  have hx1 : 1 ≤ x ∧ x ≤ 8 := by rcases isW_cases hbw with rfl | rfl | rfl | rfl <;> omega
  have ht : Int.tmod ps x = ps % x := Int.tmod_eq_emod_of_nonneg hp0
  have hwz : (x == 0) = false := by rw [beq_eq_false_iff_ne]; omega
  have hm0 : 0 ≤ ps % x ∧ ps % x < 8 := ⟨Int.emod_nonneg _ (by omega), Int.lt_of_lt_of_le (Int.emod_lt_of_pos _ (by omega)) hx1.2⟩
  have hwm : IntKind.i64.wrap (ps % x) = ps % x := by rw [IntKind.wrap_i64]; omega
  obtain ⟨md, hmd⟩ : ∃ q, ps % x = q := ⟨_, rfl⟩
  rw [hmd] at ht hwm hm0
  simp only [hmd] at HRES
  clear hmd
  by_cases hm : md = 0
  rotate_left
  · have hbm : (md != 0) = true := by simpa using hm
    have HV : Hid (res = false) := by show _ = _; rw [← HRES.out]; simp [hm]
    go_wp2_with fail
    go_ret
    exact ⟨by rw [HV.out]; rfl, HG.out⟩
  subst hm
  have HRS : Hid (res = saysF d own ps x wide ps t) := by show _ = _; rw [← HRES.out]; simp [h3, hbw, hp0]
  clear hbw
  have e0 := row_cellT HRT.out 0 _ rfl
  have e1 := row_cellT HRT.out 1 _ rfl
  have e2 := row_cellT HRT.out 2 _ rfl
  have e3 := row_cellT HRT.out 3 _ rfl
  have e4 := row_cellT HRT.out 4 _ rfl
  have e5 := row_cellT HRT.out 5 _ rfl
  go_wp2_with fail
  refine (rAt_any d _ ps x own wide t ho _ _ HD.out HT.out (by unfold i64ok; omega)).mono ?_
  rintro r u3 ⟨rfl, hgc⟩
  replace HD := Lib.hid (DocAt.grew HD.out hgc)
  replace HT := Lib.hid (NodeAt.grew hgc HT.out)
  replace HRT := Lib.hid (hgc.heap HRT.out)
  replace HG := Lib.hid (HG.out.trans hgc)
  clear hgc
  clear e0 e1 e2 e3 e4 e5
  go_wp2_with fail
  go_ret
  exact ⟨by rw [HRS.out]; rfl, HG.out⟩
end Go.Proofs.Ytlhliolknaopjaa

/-
  Denote: EqBytes. Conditions: the bytes lie in memory.
-/
namespace Go.Proofs.Ytlhliolknaopjaa
open Go Go.ChangeShapes Go.WideShapes Go.ChangeAt Go.RowKit Go.Joins
set_option linter.unusedVariables false
set_option linter.unusedSimpArgs false

theorem str27_bytes {w : World} {v : Value} {x : List UInt8} (h : BytesAt w v x) : (convert 22 9 v).run Try.prog w = .ok (.string ⟨x.toArray⟩) w := by
  obtain ⟨a, c, rfl, hc, hnil, hcell⟩ := h
  cases a with
  | none =>
    have h0 := hnil rfl
    subst h0
    have : x = [] := List.length_eq_zero_iff.1 (by omega)
    subst this
    exact run_convert_bytes_nil w 22 5 Try.underlying22 Try.underlying5 0 0 9 Try.underlying9
  | some ad =>
    refine run_convert_bytes_back w 22 9 5 ad c x Try.underlying22 Try.underlying5 Try.underlying9 fun j hj => ?_
    obtain ⟨b, off, e, hcc⟩ := hcell j x[j] (List.getElem?_eq_getElem hj)
    cases e
    have : (⟨b, off, none⟩ : Addr).add j = ⟨b, off + j, none⟩ := by
      unfold Addr.add
      split
      · rename_i h; subst h; rfl
      · rfl
    rw [this]; exact hcc
theorem eqBytes27_any {w : World} (v u : Value) (x y : List UInt8) (hv : BytesAt w v x) (hu : BytesAt w u y) :
    Calls Try.prog 12 #[v, u] w fun r w' => r = .returned (.bool (decide (x = y))) ∧ w' = w := by
  have h1 := str27_bytes hv
  have h2 := str27_bytes hu
  obtain ⟨a, c, rfl, hc, hnil, _⟩ := hv
  obtain ⟨a2, c2, rfl, hc2, hnil2, _⟩ := hu
  clear hc hc2 hnil hnil2
  go_enter Try.func12, Try.ntmps12
  go_wp2
  go_ret
  refine ⟨ret_bool ?_, rfl⟩
  show (_ == _) = _
  rw [Bool.eq_iff_iff]
  simp
end Go.Proofs.Ytlhliolknaopjaa
