/-
  FitMore: All of a list is not less than All of a prefix of it.
-/
import Derived.Test.YtkabfefphdgppaaRows
import Derived.Test.YtkabfefphdgppaaOwnV
import Derived.Test.YtkabfefphdgppaaOpen16
import Derived.Test.YtkabfefphdgppaaPlainJ
import Derived.ProofKit
import Derived.OpenShut
import Derived.ShutString
import Derived.ChangeOld
import Derived.Below
import Derived.Lib.SmallJoins
namespace Go.Proofs.Ytkabfefphdgppaa
open Go Go.ChangeShapes Go.WideShapes Go.ChangeAt Go.RowKit Go.Joins
open Go.ChangeMaps (open_string shut_string)
set_option linter.unusedVariables false

set_option maxRecDepth 100000 in
set_option maxHeartbeats 4000000 in
theorem fitMore_any (l m : List Int) (lv mv : Value) (p0 p1 : Int) (w : World) (hl : IntsAt w lv l) (hm : IntsAt w mv m) (hll : l.length ≤ 9223372036854775807) (hml : m.length ≤ 9223372036854775807) (q0 : -9223372036854775808 ≤ p0 ∧ p0 ≤ 9223372036854775807) (q1 : -9223372036854775808 ≤ p1 ∧ p1 ≤ 9223372036854775807) :
    Calls Try.prog 8 #[lv, mv, .agg #[.int .i64 p0, .int .i64 p1]] w fun e w' => e = .returned (.bool true) ∧ Grew w w' := by
  obtain ⟨q00, q01⟩ := q0
  obtain ⟨q10, q11⟩ := q1
  have HLi := Lib.hid hl
  have HMi := Lib.hid hm
  obtain ⟨la, lc, rfl, _⟩ := hl
  obtain ⟨ma, mc, rfl, _⟩ := hm
  have t0 : 1 ≤ 1 + p0 % 70000 := by omega
  have t1 : 1 + p0 % 70000 ≤ 70000 := by omega
  have r0 : 0 ≤ p1 % 3 := by omega
  have r1 : p1 % 3 < 3 := by omega
  have hr2 : p1 % 3 < ((3 : Nat) : Int) := by omega
  go_enter Try.func8, Try.ntmps8
  go_wp2_with fail
  refine (bring_any _ _ _ q00 q01 (by omega) (by omega)).mono ?_
  rintro e w1 ⟨rfl, rfl⟩
  go_wp2_with fail
  refine (bring_any _ _ _ q10 q11 (by omega) (by omega)).mono ?_
  rintro e w1 ⟨rfl, rfl⟩
  generalize 1 + p0 % 70000 = T at *
  generalize p1 % 3 = R at *
  have hcell := ahOf_cell (w.alloc (.cells #[.int .i64 p0, .int .i64 p1] 28)) 3 R r0 r1
  rw [World.size_alloc] at hcell
  have ha := Lib.hid (ahOf_isA R)
  have g1 := ((Grew.refl w).alloc (.cells #[.int .i64 p0, .int .i64 p1] 28)).alloc (.cells #[.int .i64 0, .int .i64 1, .int .i64 3] 3)
  have HN1 : Hid (((l.take 100).map (valOf · T)).length ≤ 9223372036854775807) := by show _ ≤ _; simp; omega
  have HN2 : Hid (((l.take 100).map (valOf · T) ++ (m.take 100).map (valOf · T)).length ≤ 9223372036854775807) := by show _ ≤ _; simp; omega
  have hokm : ∀ (z : List Int), ∀ x ∈ z.map (valOf · T), okV x := by
    intro z x hx
    obtain ⟨y, _, rfl⟩ := List.mem_map.1 hx
    exact valOf_ok y T t0 (by omega)
  have HO1 := Lib.hid (hokm (l.take 100))
  have HO2 : Hid (∀ x ∈ (l.take 100).map (valOf · T) ++ (m.take 100).map (valOf · T), okV x) := by
    show ∀ x ∈ _, okV x
    intro x hx
    rcases List.mem_append.1 hx with h | h
    · exact hokm _ x h
    · exact hokm _ x h
  have hle0 := all_more 0 T (ahOf R) (l.take 100) (m.take 100) ha.out (by simp; omega) (by omega) (by omega) t0 (by omega)
  obtain ⟨A1, hA1⟩ : ∃ A1, allF ((l.take 100).map (valOf · T)) (5, 1, 0) T (ahOf R) = A1 := ⟨_, rfl⟩
  obtain ⟨A2, hA2⟩ : ∃ A2, allF ((l.take 100).map (valOf · T) ++ (m.take 100).map (valOf · T)) (5, 1, 0) T (ahOf R) = A2 := ⟨_, rfl⟩
  rw [hA1, hA2] at hle0
  have HA1 := Lib.hid hA1
  have HA2 := Lib.hid hA2
  clear hA1 hA2
  clear hokm
  go_wp2_with fail
  generalize ((w.alloc (.cells #[.int .i64 p0, .int .i64 p1] 28)).alloc (.cells #[.int .i64 0, .int .i64 1, .int .i64 3] 3)) = W1 at *
  clear hcell
  go_loopw [9, 11] (fun va i wr => Grew W1 wr ∧ ∃ k : Nat, k ≤ l.length ∧ k ≤ 100 ∧ i = .int .i64 k ∧ OwnV W1.heap.size wr va ((l.take k).map (valOf · T))) (fun _ i _ => 100 - (intOf i).toNat)
  case atStart => exact ⟨Grew.refl _, 0, by omega, by omega, rfl, OwnV.nil _ _⟩
  case round =>
    obtain ⟨hg, k, hk1, hk2, rfl, hown⟩ := hrel
    by_cases hlt : k < l.length ∧ k < 100
    · obtain ⟨x, hx⟩ : ∃ x, l[k]? = some x := ⟨_, List.getElem?_eq_getElem hlt.1⟩
      obtain ⟨sa2, sc2, hse, hcc⟩ := HLi.out.grew (g1.trans hg)
      cases hse
      obtain ⟨hb, b, off, rfl, e0⟩ := hcc k x hx
      obtain ⟨hlt1, hlt2⟩ := hlt
      obtain ⟨hb0, hb1⟩ := hb
      clear hcc
      have HX := Lib.hid hx
      clear hx
      go_wp2_with fail
      refine (value_any x T _ hb0 hb1 (by omega) (by omega)).mono ?_
      rintro e w3 ⟨rfl, hg3⟩
      have hown3 := Lib.hid ((hown.grew hg3).grew ((Grew.refl _).alloc (.cells #[.int .i64 (valOf x T).1, .int .i64 (valOf x T).2.1, .int .u64 (valOf x T).2.2] 24)))
      have HLn : Hid (((l.take k).map (valOf · T)).length + [valOf x T].length ≤ 1099511627776) := by show _ ≤ _; simp; omega
      have HBs : Hid (W1.heap.size ≤ (w3.alloc (.cells #[.int .i64 (valOf x T).1, .int .i64 (valOf x T).2.1, .int .u64 (valOf x T).2.2] 24)).heap.size) := by
        show _ ≤ _
        have h1 := Grew.size hg
        have h2 := hg3.size
        simp; omega
      go_wp2_with (at_builtin; refine wpList_appendV rfl _ _ rfl W1.heap.size u9 _ rfl hown3.out _ [valOf x T] rfl (built_vals w3 [valOf x T] _) (one_ok w3) HLn.out HBs.out ?_; intro v' w' hown' hbel _)
      have hgn := Lib.hid (Below.trans (Grew.below (((hg).trans hg3).alloc _)) hbel)
      clear hbel hown3
      go_wp2
      go_roundw
      case rel =>
        refine ⟨hgn.out, k + 1, by omega, by omega, by go_num, ?_⟩
        have e : (l.take (k + 1)).map (valOf · T) = (l.take k).map (valOf · T) ++ [valOf x T] := by rw [List.take_add_one, HX.out]; simp
        rw [e]; exact hown'
      case measure => simp [intOf]; omega
    · by_cases hk3 : k < l.length
      · have hk4 : ¬ k < 100 := by omega
        clear hlt
        obtain ⟨wo, rfl⟩ : ∃ wo : World, wo = wr := ⟨_, rfl⟩
        have hkk : l.take k = l.take 100 := by
          rcases (by omega : k = 100 ∨ l.length ≤ k) with h | h
          · rw [h]
          · rw [List.take_of_length_le h, List.take_of_length_le (by omega)]
        rw [hkk] at hown
        have HVa := Lib.hid hown.vals
        have HVk := Lib.hid hown.ok
        have HLn : Hid (([] : List V3).length + ((l.take 100).map (valOf · T)).length ≤ 1099511627776) := by show _ ≤ _; simp; omega
        clear hown hkk
        go_wp2_with (at_builtin; refine wpList_appendV rfl _ _ rfl wo.heap.size (.slice none 0 0) [] rfl (OwnV.nil _ _) u9 ((l.take 100).map (valOf · T)) rfl HVa.out HVk.out HLn.out (Nat.le_refl _) ?_; intro vb1 w4 hownb hbelb _)
        rw [List.nil_append] at hownb
        go_wp2_with fail
        go_loopw [10, 12] (fun vb i wr2 => Grew wo wr2 ∧ ∃ j : Nat, j ≤ m.length ∧ j ≤ 100 ∧ i = .int .i64 j ∧ OwnV wo.heap.size wr2 vb ((l.take 100).map (valOf · T) ++ (m.take j).map (valOf · T))) (fun _ i _ => 100 - (intOf i).toNat)
        case atStart => exact ⟨hbelb, 0, by omega, by omega, rfl, by simpa using hownb⟩
        case round =>
          obtain ⟨hg2, j, hj1, hj2, rfl, hown2⟩ := hrel
          by_cases hlt : j < m.length ∧ j < 100
          · obtain ⟨x, hx⟩ : ∃ x, m[j]? = some x := ⟨_, List.getElem?_eq_getElem hlt.1⟩
            obtain ⟨sa2, sc2, hse, hcc⟩ := HMi.out.grew ((g1.trans hg).trans hg2)
            cases hse
            obtain ⟨hb, b, off, rfl, e0⟩ := hcc j x hx
            obtain ⟨hlt1, hlt2⟩ := hlt
            obtain ⟨hb0, hb1⟩ := hb
            clear hcc
            have HX := Lib.hid hx
            clear hx
            go_wp2_with fail
            refine (value_any x T _ hb0 hb1 (by omega) (by omega)).mono ?_
            rintro e w3 ⟨rfl, hg3⟩
            have hown3 := Lib.hid ((hown2.grew hg3).grew ((Grew.refl _).alloc (.cells #[.int .i64 (valOf x T).1, .int .i64 (valOf x T).2.1, .int .u64 (valOf x T).2.2] 24)))
            have HLn : Hid (((l.take 100).map (valOf · T) ++ (m.take j).map (valOf · T)).length + [valOf x T].length ≤ 1099511627776) := by show _ ≤ _; simp; omega
            have HBs : Hid (wo.heap.size ≤ (w3.alloc (.cells #[.int .i64 (valOf x T).1, .int .i64 (valOf x T).2.1, .int .u64 (valOf x T).2.2] 24)).heap.size) := by
              show _ ≤ _
              have h1 := Grew.size hg2
              have h2 := hg3.size
              simp; omega
            go_wp2_with (at_builtin; refine wpList_appendV rfl _ _ rfl wo.heap.size u10 _ rfl hown3.out _ [valOf x T] rfl (built_vals w3 [valOf x T] _) (one_ok w3) HLn.out HBs.out ?_; intro v' w' hown' hbel _)
            have hgn := Lib.hid (Below.trans (Grew.below (((hg2).trans hg3).alloc _)) hbel)
            clear hbel hown3
            go_wp2
            go_roundw
            case rel =>
              refine ⟨hgn.out, j + 1, by omega, by omega, by go_num, ?_⟩
              have e : (l.take 100).map (valOf · T) ++ (m.take (j + 1)).map (valOf · T) = ((l.take 100).map (valOf · T) ++ (m.take j).map (valOf · T)) ++ [valOf x T] := by
                have e1 : m.take (j + 1) = m.take j ++ [x] := by rw [List.take_add_one, HX.out]; rfl
                rw [e1]; simp
              rw [e]; exact hown'
            case measure => simp [intOf]; omega
          · have hj : m.take j = m.take 100 := by
              rcases (by omega : j = 100 ∨ m.length ≤ j) with h | h
              · rw [h]
              · rw [List.take_of_length_le h, List.take_of_length_le (by omega)]
            have hvb : Hid (ValsAt wr u10 ((l.take 100).map (valOf · T) ++ (m.take 100).map (valOf · T))) := by
              show ValsAt wr u10 _
              rw [← hj]; exact hown2.vals
            clear hj
            by_cases hj1 : j < m.length
            · go_wp2_with fail
              refine (text_any _ _).mono ?_
              rintro e w6 ⟨rfl, h6⟩
              go_wp2_with fail
              refine (all_any ((l.take 100).map (valOf · T)) (5, 1, 0) T (ahOf R) _ _ HN1.out HO1.out ⟨by decide, by decide⟩ ((HVa.out.grew hg2).grew h6)).mono ?_
              rw [HA1.out]
              rintro e w7 ⟨rfl, h7⟩
              go_wp2_with fail
              refine (text_any _ _).mono ?_
              rintro e w8 ⟨rfl, h8⟩
              go_wp2_with fail
              refine (all_any ((l.take 100).map (valOf · T) ++ (m.take 100).map (valOf · T)) (5, 1, 0) T (ahOf R) _ _ HN2.out HO2.out ⟨by decide, by decide⟩ (((hvb.out.grew h6).grew h7).grew h8)).mono ?_
              rw [HA2.out]
              rintro e w9 ⟨rfl, h9⟩
              go_wp2_with fail
              refine (works16_any _).mono ?_
              rintro e w10 ⟨rfl, h10⟩
              go_wp2
              go_ret
              exact ⟨rfl, (((((((g1.trans hg).trans hg2).trans h6).trans h7).trans h8).trans h9).trans h10)⟩
            · go_wp2_with fail
              refine (text_any _ _).mono ?_
              rintro e w6 ⟨rfl, h6⟩
              go_wp2_with fail
              refine (all_any ((l.take 100).map (valOf · T)) (5, 1, 0) T (ahOf R) _ _ HN1.out HO1.out ⟨by decide, by decide⟩ ((HVa.out.grew hg2).grew h6)).mono ?_
              rw [HA1.out]
              rintro e w7 ⟨rfl, h7⟩
              go_wp2_with fail
              refine (text_any _ _).mono ?_
              rintro e w8 ⟨rfl, h8⟩
              go_wp2_with fail
              refine (all_any ((l.take 100).map (valOf · T) ++ (m.take 100).map (valOf · T)) (5, 1, 0) T (ahOf R) _ _ HN2.out HO2.out ⟨by decide, by decide⟩ (((hvb.out.grew h6).grew h7).grew h8)).mono ?_
              rw [HA2.out]
              rintro e w9 ⟨rfl, h9⟩
              go_wp2_with fail
              refine (works16_any _).mono ?_
              rintro e w10 ⟨rfl, h10⟩
              go_wp2
              go_ret
              exact ⟨rfl, (((((((g1.trans hg).trans hg2).trans h6).trans h7).trans h8).trans h9).trans h10)⟩
      · obtain ⟨wo, rfl⟩ : ∃ wo : World, wo = wr := ⟨_, rfl⟩
        have hkk : l.take k = l.take 100 := by
          rcases (by omega : k = 100 ∨ l.length ≤ k) with h | h
          · rw [h]
          · rw [List.take_of_length_le h, List.take_of_length_le (by omega)]
        rw [hkk] at hown
        have HVa := Lib.hid hown.vals
        have HVk := Lib.hid hown.ok
        have HLn : Hid (([] : List V3).length + ((l.take 100).map (valOf · T)).length ≤ 1099511627776) := by show _ ≤ _; simp; omega
        clear hown hkk
        go_wp2_with (at_builtin; refine wpList_appendV rfl _ _ rfl wo.heap.size (.slice none 0 0) [] rfl (OwnV.nil _ _) u9 ((l.take 100).map (valOf · T)) rfl HVa.out HVk.out HLn.out (Nat.le_refl _) ?_; intro vb1 w4 hownb hbelb _)
        rw [List.nil_append] at hownb
        go_wp2_with fail
        go_loopw [10, 12] (fun vb i wr2 => Grew wo wr2 ∧ ∃ j : Nat, j ≤ m.length ∧ j ≤ 100 ∧ i = .int .i64 j ∧ OwnV wo.heap.size wr2 vb ((l.take 100).map (valOf · T) ++ (m.take j).map (valOf · T))) (fun _ i _ => 100 - (intOf i).toNat)
        case atStart => exact ⟨hbelb, 0, by omega, by omega, rfl, by simpa using hownb⟩
        case round =>
          obtain ⟨hg2, j, hj1, hj2, rfl, hown2⟩ := hrel
          by_cases hlt : j < m.length ∧ j < 100
          · obtain ⟨x, hx⟩ : ∃ x, m[j]? = some x := ⟨_, List.getElem?_eq_getElem hlt.1⟩
            obtain ⟨sa2, sc2, hse, hcc⟩ := HMi.out.grew ((g1.trans hg).trans hg2)
            cases hse
            obtain ⟨hb, b, off, rfl, e0⟩ := hcc j x hx
            obtain ⟨hlt1, hlt2⟩ := hlt
            obtain ⟨hb0, hb1⟩ := hb
            clear hcc
            have HX := Lib.hid hx
            clear hx
            go_wp2_with fail
            refine (value_any x T _ hb0 hb1 (by omega) (by omega)).mono ?_
            rintro e w3 ⟨rfl, hg3⟩
            have hown3 := Lib.hid ((hown2.grew hg3).grew ((Grew.refl _).alloc (.cells #[.int .i64 (valOf x T).1, .int .i64 (valOf x T).2.1, .int .u64 (valOf x T).2.2] 24)))
            have HLn : Hid (((l.take 100).map (valOf · T) ++ (m.take j).map (valOf · T)).length + [valOf x T].length ≤ 1099511627776) := by show _ ≤ _; simp; omega
            have HBs : Hid (wo.heap.size ≤ (w3.alloc (.cells #[.int .i64 (valOf x T).1, .int .i64 (valOf x T).2.1, .int .u64 (valOf x T).2.2] 24)).heap.size) := by
              show _ ≤ _
              have h1 := Grew.size hg2
              have h2 := hg3.size
              simp; omega
            go_wp2_with (at_builtin; refine wpList_appendV rfl _ _ rfl wo.heap.size u10 _ rfl hown3.out _ [valOf x T] rfl (built_vals w3 [valOf x T] _) (one_ok w3) HLn.out HBs.out ?_; intro v' w' hown' hbel _)
            have hgn := Lib.hid (Below.trans (Grew.below (((hg2).trans hg3).alloc _)) hbel)
            clear hbel hown3
            go_wp2
            go_roundw
            case rel =>
              refine ⟨hgn.out, j + 1, by omega, by omega, by go_num, ?_⟩
              have e : (l.take 100).map (valOf · T) ++ (m.take (j + 1)).map (valOf · T) = ((l.take 100).map (valOf · T) ++ (m.take j).map (valOf · T)) ++ [valOf x T] := by
                have e1 : m.take (j + 1) = m.take j ++ [x] := by rw [List.take_add_one, HX.out]; rfl
                rw [e1]; simp
              rw [e]; exact hown'
            case measure => simp [intOf]; omega
          · have hj : m.take j = m.take 100 := by
              rcases (by omega : j = 100 ∨ m.length ≤ j) with h | h
              · rw [h]
              · rw [List.take_of_length_le h, List.take_of_length_le (by omega)]
            have hvb : Hid (ValsAt wr u10 ((l.take 100).map (valOf · T) ++ (m.take 100).map (valOf · T))) := by
              show ValsAt wr u10 _
              rw [← hj]; exact hown2.vals
            clear hj
            by_cases hj1 : j < m.length
            · go_wp2_with fail
              refine (text_any _ _).mono ?_
              rintro e w6 ⟨rfl, h6⟩
              go_wp2_with fail
              refine (all_any ((l.take 100).map (valOf · T)) (5, 1, 0) T (ahOf R) _ _ HN1.out HO1.out ⟨by decide, by decide⟩ ((HVa.out.grew hg2).grew h6)).mono ?_
              rw [HA1.out]
              rintro e w7 ⟨rfl, h7⟩
              go_wp2_with fail
              refine (text_any _ _).mono ?_
              rintro e w8 ⟨rfl, h8⟩
              go_wp2_with fail
              refine (all_any ((l.take 100).map (valOf · T) ++ (m.take 100).map (valOf · T)) (5, 1, 0) T (ahOf R) _ _ HN2.out HO2.out ⟨by decide, by decide⟩ (((hvb.out.grew h6).grew h7).grew h8)).mono ?_
              rw [HA2.out]
              rintro e w9 ⟨rfl, h9⟩
              go_wp2_with fail
              refine (works16_any _).mono ?_
              rintro e w10 ⟨rfl, h10⟩
              go_wp2
              go_ret
              exact ⟨rfl, (((((((g1.trans hg).trans hg2).trans h6).trans h7).trans h8).trans h9).trans h10)⟩
            · go_wp2_with fail
              refine (text_any _ _).mono ?_
              rintro e w6 ⟨rfl, h6⟩
              go_wp2_with fail
              refine (all_any ((l.take 100).map (valOf · T)) (5, 1, 0) T (ahOf R) _ _ HN1.out HO1.out ⟨by decide, by decide⟩ ((HVa.out.grew hg2).grew h6)).mono ?_
              rw [HA1.out]
              rintro e w7 ⟨rfl, h7⟩
              go_wp2_with fail
              refine (text_any _ _).mono ?_
              rintro e w8 ⟨rfl, h8⟩
              go_wp2_with fail
              refine (all_any ((l.take 100).map (valOf · T) ++ (m.take 100).map (valOf · T)) (5, 1, 0) T (ahOf R) _ _ HN2.out HO2.out ⟨by decide, by decide⟩ (((hvb.out.grew h6).grew h7).grew h8)).mono ?_
              rw [HA2.out]
              rintro e w9 ⟨rfl, h9⟩
              go_wp2_with fail
              refine (works16_any _).mono ?_
              rintro e w10 ⟨rfl, h10⟩
              go_wp2
              go_ret
              exact ⟨rfl, (((((((g1.trans hg).trans hg2).trans h6).trans h7).trans h8).trans h9).trans h10)⟩

theorem fitMore_row {H : Type} (enc : TypeId × Value → H) (W : World) (base : Nat) (v0 : Value) (d0 : DataW H) (p0 : List MemPlace) (o0 : Value.okWide Try.prog W .any base 38 v0) (k0 : DataW.Trod enc Try.prog W 0 (fun _ => true) true 38 v0 d0 p0) (v1 : Value) (d1 : DataW H) (p1 : List MemPlace) (o1 : Value.okWide Try.prog W .any base 38 v1) (k1 : DataW.Trod enc Try.prog W 0 (fun _ => true) true 38 v1 d1 p1) (v2 : Value) (d2 : DataW H) (p2 : List MemPlace) (o2 : Value.okWide Try.prog W .any base 28 v2) (k2 : DataW.Trod enc Try.prog W 0 (fun _ => true) true 28 v2 d2 p2) :
    Calls Try.prog 8 #[v0, v1, v2] W fun e w' => e = .returned (.bool true) ∧ Below W.heap.size W w' := by
  obtain ⟨l, hl, hll⟩ := open_intlist o0 k0
  obtain ⟨m, hm, hml⟩ := open_intlist o1 k1
  obtain ⟨x, y, rfl, hx, hy⟩ := open_pair2 o2 k2
  exact (fitMore_any l m v0 v1 x y W hl hm hll hml hx hy).mono fun e w' ⟨he, hg⟩ => ⟨he, hg.below⟩

theorem fitMore_own : ownKnob Try.prog.godebug = none := by kernel_rfl
theorem fitMore_laidOut : laidOutB Try.prog = true := by kernel_rfl

set_option maxRecDepth 100000 in
theorem fitMore_lifted (os : Os) (started : os.Started) (H : Type) (enc : TypeId × Value → H) :
    ReturnsInHanded {} Try.checked os 8 .any (Rows.fitMoreSpec.pre6 enc Try.prog Try.f8 Rows.fitMoreRow.domain false) (Rows.fitMoreSpec.post enc Try.prog Try.f8 false true false false) := by
  refine returnsInHanded_of_change (C := Try.checked) fitMore_own started (by kernel_rfl) Try.func8
    (ChangeSpec.witness6 (enc := enc) (C := Try.checked) false ⟨#[], #[.slice none 0 0, .slice none 0 0, .agg #[.int .i64 0, .int .i64 0]], []⟩ 8 (by kernel_rfl) (by kernel_rfl) (by kernel_rfl) (by kernel_rfl)) ?_
  intro W base args ds gs before hval0 hW hcnd _
  have hval : ∀ (j : Nat) t v, Try.f8.params[j]? = some t → args[j]? = some v → Value.okWide Try.prog W .any base t v := hval0
  have hW' := hW
  obtain ⟨p, q, hA0, hV, rfl, hfz, hnd⟩ := hW
  have hA : DataW.TrodAll enc Try.prog W 0 (fun _ => true) true Try.f8.params.toList args.toList ds p := hA0
  rw [Try.params8] at hA hval
  obtain ⟨v0, vs0, d0, ds0, p0, q0, hargs, rfl, rfl, h0, r0⟩ := trodAll_cons hA
  obtain ⟨v1, vs1, d1, ds1, p1, q1, rfl, rfl, rfl, h1, r1⟩ := trodAll_cons r0
  obtain ⟨v2, vs2, d2, ds2, p2, q2, rfl, rfl, rfl, h2, r2⟩ := trodAll_cons r1
  obtain ⟨rfl, rfl, rfl⟩ := trodAll_nil r2
  obtain rfl : args = #[v0, v1, v2] := by cases args; simp_all
  obtain ⟨rfl, rfl⟩ := trodVars_none hV
  have lt0 : ∀ x ∈ p0, x.block < W.heap.size := by obtain ⟨m, hm⟩ := h0; exact DataW.trod_lt m _ _ _ hm
  have lt1 : ∀ x ∈ p1, x.block < W.heap.size := by obtain ⟨m, hm⟩ := h1; exact DataW.trod_lt m _ _ _ hm
  have lt2 : ∀ x ∈ p2, x.block < W.heap.size := by obtain ⟨m, hm⟩ := h2; exact DataW.trod_lt m _ _ _ hm
  have hw := fitMore_row enc W base v0 d0 p0 (hval 0 38 v0 rfl rfl) h0 v1 d1 p1 (hval 1 38 v1 rfl rfl) h1 v2 d2 p2 (hval 2 28 v2 rfl rfl) h2
  clear hA0 hval0
  refine hw.mono fun e W' ⟨he, bel⟩ => ?_
  subst he
  exact ⟨_, rfl, _, _, _, [], _, [], hW', trodAll_mk1 (shut_bool Try.underlying4 _), (trodAll_cons_mk (Below.trod fitMore_laidOut (by kernel_rfl) (of_decide_eq_true (by kernel_rfl)) h0 bel lt0) (trodAll_cons_mk (Below.trod fitMore_laidOut (by kernel_rfl) (of_decide_eq_true (by kernel_rfl)) h1 bel lt1) (trodAll_cons_mk (Below.trod fitMore_laidOut (by kernel_rfl) (of_decide_eq_true (by kernel_rfl)) h2 bel lt2) trodAll_mk0))), rfl, Below.frame bel _, fun h => by cases h⟩

/-- The statement. -/
theorem fitMore_holds : Rows.FitMoreSaid :=
  OpenClaim.holds_of_wide 8 Try.f8 rfl rfl rfl rfl rfl rfl rfl ⟨rfl, rfl, rfl, rfl, rfl⟩ rfl rfl rfl rfl rfl (by kernel_rfl) Try.func8 (by kernel_rfl)
    (of_decide_eq_true (by kernel_rfl)) (by unfold Func.isWrapper; first | (rw [if_pos (by decide +kernel)]; kernel_rfl) | (rw [if_neg (by decide +kernel)]; exact ⟨rfl, rfl⟩))
    (fun os started H enc _ => fitMore_lifted os started H enc)

end Go.Proofs.Ytkabfefphdgppaa
