/-
  FitJoined: All is the maximum of the widths of its parts.
-/
import Derived.Test.YtkabfefphdgppaaRows
import Derived.Test.YtkabfefphdgppaaOwnV
import Derived.Test.YtkabfefphdgppaaOpen16
import Derived.Test.YtkabfefphdgppaaPlainJ
import Derived.ProofKit
import Derived.OpenShut
import Derived.ShutString
import Derived.ChangeOld
import Derived.Below
import Derived.Lib.SmallJoins
namespace Go.Proofs.Ytkabfefphdgppaa
open Go Go.ChangeShapes Go.WideShapes Go.ChangeAt Go.RowKit Go.Joins
open Go.ChangeMaps (open_string shut_string)
set_option linter.unusedVariables false

set_option maxRecDepth 100000 in
set_option maxHeartbeats 4000000 in
theorem fitJoined_any (l : List Int) (lv : Value) (a b : Int) (w : World) (hl : IntsAt w lv l) (hll : l.length ≤ 9223372036854775807) (qa : -9223372036854775808 ≤ a ∧ a ≤ 9223372036854775807) (qb : -9223372036854775808 ≤ b ∧ b ≤ 9223372036854775807) :
    Calls Try.prog 7 #[lv, .int .i64 a, .int .i64 b] w fun e w' => e = .returned (.bool true) ∧ Grew w w' := by
  obtain ⟨a0, a1⟩ := qa
  obtain ⟨b0, b1⟩ := qb
  have HLi := Lib.hid hl
  obtain ⟨la, lc, rfl, _⟩ := hl
  have t0 : 1 ≤ 1 + a % 70000 := by omega
  have t1 : 1 + a % 70000 ≤ 70000 := by omega
  have kk0 : 0 ≤ b % (1 + a % 70000) := Int.emod_nonneg _ (by omega)
  have kk1 : b % (1 + a % 70000) < 1 + a % 70000 := Int.emod_lt_of_pos _ (by omega)
  obtain ⟨n, n1, n2, n3⟩ : ∃ n : Nat, n ≤ l.length ∧ n ≤ 300 ∧ (n = l.length ∨ n = 300) := ⟨min l.length 300, by omega, by omega, by omega⟩
  have hkk : (1 : Int) = 1 := rfl
  obtain hr | hr | hr : b % 3 = 0 ∨ b % 3 = 1 ∨ b % 3 = 2 := by omega
  · have HR := Lib.hid hr
    clear hr
    have hs0 := want_start n (b % (1 + a % 70000)) (1 + a % 70000) 0 (.inl rfl) (by omega) kk0 (by omega) (by omega)
    simp only [reduceIte, Int.reduceEq] at hs0
    have HS := Lib.hid hs0
    clear hs0
    go_enter Try.func7, Try.ntmps7
    go_wp2_with fail
    refine (bring_any _ _ _ a0 a1 (by omega) (by omega)).mono ?_
    rintro e w1 ⟨rfl, rfl⟩
    go_wp2_with fail
    refine (bring_any _ _ _ b0 b1 (by omega) (by omega)).mono ?_
    rw [HR.out]
    rintro e w1 ⟨rfl, rfl⟩
    go_wp2_with fail
    refine (bring_any _ _ _ b0 b1 (by omega) (by omega)).mono ?_
    rintro e w1 ⟨rfl, rfl⟩
    have HK2 := Lib.hid hkk
    generalize b % (1 + a % 70000) = kk at *
    generalize 1 + a % 70000 = T at *
    go_wp2_with fail
    refine (text_any _ _).mono ?_
    rintro e w2 ⟨rfl, hg2⟩
    have g2 := ((Grew.refl w).alloc (.cells #[.int .i64 0, .int .i64 1, .int .i64 3] 3)).trans hg2
    clear hg2
    go_wp2_with fail
    have c0 : (w2.alloc (.cells #[.int .i64 5, .int .i64 1, .int .u64 kk] 24)).cell? ⟨w2.heap.size, 0, none⟩ = some (.int .i64 5) := by go_simp
    have c1 : (w2.alloc (.cells #[.int .i64 5, .int .i64 1, .int .u64 kk] 24)).cell? ⟨w2.heap.size, 1, none⟩ = some (.int .i64 1) := by go_simp
    have c2 : (w2.alloc (.cells #[.int .i64 5, .int .i64 1, .int .u64 kk] 24)).cell? ⟨w2.heap.size, 2, none⟩ = some (.int .u64 kk) := by go_simp
    have g4 : Grew w (w2.alloc (.cells #[.int .i64 5, .int .i64 1, .int .u64 kk] 24)) := g2.alloc _
    generalize hw4 : w2.alloc (.cells #[.int .i64 5, .int .i64 1, .int .u64 kk] 24) = w4 at c0 c1 c2 g4 ⊢
    clear hw4
    go_loopw [9, 10, 11] (fun want va i wr => Grew w4 wr ∧ ∃ k : Nat, k ≤ l.length ∧ k ≤ 300 ∧ i = .int .i64 k ∧ (∃ A, want = .int .i64 A ∧ Hid (A = leastOf (fun v => wantP n (5, 1, kk) T 0 ((l.take k).map (valOf · T)) v))) ∧ OwnV w4.heap.size wr va ((l.take k).map (valOf · T))) (fun _ _ i _ => 300 - (intOf i).toNat)
    case atStart => exact ⟨Grew.refl _, 0, by omega, by omega, rfl, ⟨_, rfl, HS.out.symm⟩, OwnV.nil _ _⟩
    case round =>
      obtain ⟨hg, k, hk1, hk2, rfl, ⟨A, rfl, HA⟩, hown⟩ := hrel
      by_cases hlt : k < l.length ∧ k < 300
      · obtain ⟨x, hx⟩ : ∃ x, l[k]? = some x := ⟨_, List.getElem?_eq_getElem hlt.1⟩
        obtain ⟨sa2, sc2, hse, hcc⟩ := HLi.out.grew (g4.trans hg)
        cases hse
        obtain ⟨hb, b, off, rfl, e0⟩ := hcc k x hx
        obtain ⟨hlt1, hlt2⟩ := hlt
        obtain ⟨hb0, hb1⟩ := hb
        clear hcc
        have HX := Lib.hid hx
        clear hx
        have hvk := valOf_ok x T t0 (by omega)
        obtain ⟨hv0, hv1⟩ := hvk
        have hst := want_step n kk T 0 (l.take k) x (.inl rfl) (by omega) (by simp; omega) kk0 (by omega) t0 (by omega)
        rw [← HA.out, List.length_take, show min k l.length = k by omega] at hst
        try rw [Int.zero_add] at hst
        have HST := Lib.hid hst
        clear hst
        go_wp2_with fail
        refine (value_any x T _ hb0 hb1 (by omega) (by omega)).mono ?_
        rintro e w5 ⟨rfl, hg5⟩
        generalize hvx : valOf x T = vx at *
        obtain ⟨x0, x1, x2⟩ := vx
        have HVX := Lib.hid hvx
        clear hvx
        go_wp2_with fail
        refine (one_any _ _ _ _ _ _ hv0 hv1).mono ?_
        rintro e w6 ⟨rfl, hg6⟩
        have d0 := hg6.cell (p := ⟨w5.heap.size, 0, none⟩) (v := .int .i64 x0) (by go_simp)
        have d1 := hg6.cell (p := ⟨w5.heap.size, 1, none⟩) (v := .int .i64 x1) (by go_simp)
        have d2 := hg6.cell (p := ⟨w5.heap.size, 2, none⟩) (v := .int .u64 x2) (by go_simp)
        have G6 := Lib.hid (((hg.trans hg5).alloc (.cells #[.int .i64 x0, .int .i64 x1, .int .u64 x2] 24)).trans hg6)
        have hown3 := Lib.hid (((((hown.grew hg5).grew ((Grew.refl _).alloc (.cells #[.int .i64 x0, .int .i64 x1, .int .u64 x2] 24))).grew hg6)).grew ((Grew.refl _).alloc (.cells #[.int .i64 x0, .int .i64 x1, .int .u64 x2] 24)))
        have HLn : Hid (((l.take k).map (valOf · T)).length + [(x0, x1, x2)].length ≤ 1099511627776) := by show _ ≤ _; simp; omega
        have HBs : Hid (w4.heap.size ≤ (w6.alloc (.cells #[.int .i64 x0, .int .i64 x1, .int .u64 x2] 24)).heap.size) := by
          show _ ≤ _
          have h1 := Grew.size G6.out
          simp; omega
        clear hg hg5 hg6
        go_wp2_with (at_builtin; refine wpList_appendV rfl _ _ rfl w4.heap.size u10 _ rfl hown3.out _ [(x0, x1, x2)] rfl (built_vals w6 [(x0, x1, x2)] _) (one_ok w6) HLn.out HBs.out ?_; intro v' w' hown' hbel _)
        have hgn := Lib.hid (Below.trans (Grew.below (G6.out.alloc _)) hbel)
        clear hbel hown3
        go_wp2
        go_roundw
        case rel =>
          have e1 : l.take (k + 1) = l.take k ++ [x] := by rw [List.take_add_one, HX.out]; rfl
          refine ⟨hgn.out, k + 1, by omega, by omega, by go_num, ⟨_, rfl, ?_⟩, ?_⟩
          · show _ = _
            rw [e1]
            exact HST.out.symm
          · rw [e1, List.map_append, List.map_cons, List.map_nil, HVX.out]; exact hown'
        case measure => simp [intOf]; omega
      · have hkk3 : l.take k = l.take 300 := by
          rcases (by omega : k = 300 ∨ l.length ≤ k) with h | h
          · rw [h]
          · rw [List.take_of_length_le h, List.take_of_length_le (by omega)]
        have hAe : A = allF ((l.take 300).map (valOf · T)) (5, 1, kk) T 0 := by
          rw [HA.out, hkk3, want_end kk T 0 (l.take 300) (.inl rfl) (by simp; omega) t0 (by omega), List.length_take, show min 300 l.length = n by omega]
        have HAe := Lib.hid hAe
        have HVa : Hid (ValsAt wr u10 ((l.take 300).map (valOf · T))) := by
          show ValsAt wr u10 _
          rw [← hkk3]; exact hown.vals
        have HN : Hid (((l.take 300).map (valOf · T)).length ≤ 9223372036854775807) := by show _ ≤ _; simp; omega
        have HO : Hid (∀ x ∈ (l.take 300).map (valOf · T), okV x) := by
          intro x hx
          obtain ⟨y, _, rfl⟩ := List.mem_map.1 hx
          exact valOf_ok y T t0 (by omega)
        clear hkk3 hown hAe
        have d0 := hg.cell c0
        have d1 := hg.cell c1
        have d2 := hg.cell c2
        by_cases hk3 : k < l.length
        · have hk4 : ¬ k < 300 := by omega
          clear hlt
          go_wp2_with fail
          refine (all_any ((l.take 300).map (valOf · T)) (5, 1, kk) T 0 _ _ HN.out HO.out ⟨kk0, by show kk ≤ _; omega⟩ HVa.out).mono ?_
          rw [← HAe.out]
          rintro e w7 ⟨rfl, hg7⟩
          go_wp2_with fail
          refine (works16_any _).mono ?_
          rintro e w8 ⟨rfl, hg8⟩
          go_wp2
          go_ret
          exact ⟨rfl, ((g4.trans hg).trans hg7).trans hg8⟩
        · go_wp2_with fail
          refine (all_any ((l.take 300).map (valOf · T)) (5, 1, kk) T 0 _ _ HN.out HO.out ⟨kk0, by show kk ≤ _; omega⟩ HVa.out).mono ?_
          rw [← HAe.out]
          rintro e w7 ⟨rfl, hg7⟩
          go_wp2_with fail
          refine (works16_any _).mono ?_
          rintro e w8 ⟨rfl, hg8⟩
          go_wp2
          go_ret
          exact ⟨rfl, ((g4.trans hg).trans hg7).trans hg8⟩
  · have HR := Lib.hid hr
    clear hr
    have hs0 := want_start n (b % (1 + a % 70000)) (1 + a % 70000) 1 (.inr (.inl rfl)) (by omega) kk0 (by omega) (by omega)
    simp only [reduceIte, Int.reduceEq] at hs0
    have HS := Lib.hid hs0
    clear hs0
    go_enter Try.func7, Try.ntmps7
    go_wp2_with fail
    refine (bring_any _ _ _ a0 a1 (by omega) (by omega)).mono ?_
    rintro e w1 ⟨rfl, rfl⟩
    go_wp2_with fail
    refine (bring_any _ _ _ b0 b1 (by omega) (by omega)).mono ?_
    rw [HR.out]
    rintro e w1 ⟨rfl, rfl⟩
    go_wp2_with fail
    refine (bring_any _ _ _ b0 b1 (by omega) (by omega)).mono ?_
    rintro e w1 ⟨rfl, rfl⟩
    have HK2 := Lib.hid hkk
    generalize b % (1 + a % 70000) = kk at *
    generalize 1 + a % 70000 = T at *
    go_wp2_with fail
    refine (text_any _ _).mono ?_
    rintro e w2 ⟨rfl, hg2⟩
    have g2 := ((Grew.refl w).alloc (.cells #[.int .i64 0, .int .i64 1, .int .i64 3] 3)).trans hg2
    clear hg2
    go_wp2_with fail
    refine (bytes16_any _ _ (by omega) (by omega)).mono ?_
    rw [show (min (l.length : Int) 300).toNat = n by omega]
    rintro e w3 ⟨rfl, rfl⟩
    go_wp2_with fail
    have c0 : (w2.alloc (.cells #[.int .i64 5, .int .i64 1, .int .u64 kk] 24)).cell? ⟨w2.heap.size, 0, none⟩ = some (.int .i64 5) := by go_simp
    have c1 : (w2.alloc (.cells #[.int .i64 5, .int .i64 1, .int .u64 kk] 24)).cell? ⟨w2.heap.size, 1, none⟩ = some (.int .i64 1) := by go_simp
    have c2 : (w2.alloc (.cells #[.int .i64 5, .int .i64 1, .int .u64 kk] 24)).cell? ⟨w2.heap.size, 2, none⟩ = some (.int .u64 kk) := by go_simp
    have g4 : Grew w (w2.alloc (.cells #[.int .i64 5, .int .i64 1, .int .u64 kk] 24)) := g2.alloc _
    generalize hw4 : w2.alloc (.cells #[.int .i64 5, .int .i64 1, .int .u64 kk] 24) = w4 at c0 c1 c2 g4 ⊢
    clear hw4
    go_loopw [9, 10, 11] (fun want va i wr => Grew w4 wr ∧ ∃ k : Nat, k ≤ l.length ∧ k ≤ 300 ∧ i = .int .i64 k ∧ (∃ A, want = .int .i64 A ∧ Hid (A = leastOf (fun v => wantP n (5, 1, kk) T 1 ((l.take k).map (valOf · T)) v))) ∧ OwnV w4.heap.size wr va ((l.take k).map (valOf · T))) (fun _ _ i _ => 300 - (intOf i).toNat)
    case atStart => exact ⟨Grew.refl _, 0, by omega, by omega, rfl, ⟨_, rfl, HS.out.symm⟩, OwnV.nil _ _⟩
    case round =>
      obtain ⟨hg, k, hk1, hk2, rfl, ⟨A, rfl, HA⟩, hown⟩ := hrel
      by_cases hlt : k < l.length ∧ k < 300
      · obtain ⟨x, hx⟩ : ∃ x, l[k]? = some x := ⟨_, List.getElem?_eq_getElem hlt.1⟩
        obtain ⟨sa2, sc2, hse, hcc⟩ := HLi.out.grew (g4.trans hg)
        cases hse
        obtain ⟨hb, b, off, rfl, e0⟩ := hcc k x hx
        obtain ⟨hlt1, hlt2⟩ := hlt
        obtain ⟨hb0, hb1⟩ := hb
        clear hcc
        have HX := Lib.hid hx
        clear hx
        have hvk := valOf_ok x T t0 (by omega)
        obtain ⟨hv0, hv1⟩ := hvk
        have hst := want_step n kk T 1 (l.take k) x (.inr (.inl rfl)) (by omega) (by simp; omega) kk0 (by omega) t0 (by omega)
        rw [← HA.out, List.length_take, show min k l.length = k by omega] at hst
        try rw [Int.zero_add] at hst
        have HST := Lib.hid hst
        clear hst
        go_wp2_with fail
        refine (value_any x T _ hb0 hb1 (by omega) (by omega)).mono ?_
        rintro e w5 ⟨rfl, hg5⟩
        generalize hvx : valOf x T = vx at *
        obtain ⟨x0, x1, x2⟩ := vx
        have HVX := Lib.hid hvx
        clear hvx
        go_wp2_with fail
        refine (one_any _ _ _ _ _ _ hv0 hv1).mono ?_
        rintro e w6 ⟨rfl, hg6⟩
        have d0 := hg6.cell (p := ⟨w5.heap.size, 0, none⟩) (v := .int .i64 x0) (by go_simp)
        have d1 := hg6.cell (p := ⟨w5.heap.size, 1, none⟩) (v := .int .i64 x1) (by go_simp)
        have d2 := hg6.cell (p := ⟨w5.heap.size, 2, none⟩) (v := .int .u64 x2) (by go_simp)
        have G6 := Lib.hid (((hg.trans hg5).alloc (.cells #[.int .i64 x0, .int .i64 x1, .int .u64 x2] 24)).trans hg6)
        have hown3 := Lib.hid (((((hown.grew hg5).grew ((Grew.refl _).alloc (.cells #[.int .i64 x0, .int .i64 x1, .int .u64 x2] 24))).grew hg6)).grew ((Grew.refl _).alloc (.cells #[.int .i64 x0, .int .i64 x1, .int .u64 x2] 24)))
        have HLn : Hid (((l.take k).map (valOf · T)).length + [(x0, x1, x2)].length ≤ 1099511627776) := by show _ ≤ _; simp; omega
        have HBs : Hid (w4.heap.size ≤ (w6.alloc (.cells #[.int .i64 x0, .int .i64 x1, .int .u64 x2] 24)).heap.size) := by
          show _ ≤ _
          have h1 := Grew.size G6.out
          simp; omega
        clear hg hg5 hg6
        go_wp2_with (at_builtin; refine wpList_appendV rfl _ _ rfl w4.heap.size u10 _ rfl hown3.out _ [(x0, x1, x2)] rfl (built_vals w6 [(x0, x1, x2)] _) (one_ok w6) HLn.out HBs.out ?_; intro v' w' hown' hbel _)
        have hgn := Lib.hid (Below.trans (Grew.below (G6.out.alloc _)) hbel)
        clear hbel hown3
        go_wp2
        go_roundw
        case rel =>
          have e1 : l.take (k + 1) = l.take k ++ [x] := by rw [List.take_add_one, HX.out]; rfl
          refine ⟨hgn.out, k + 1, by omega, by omega, by go_num, ⟨_, rfl, ?_⟩, ?_⟩
          · show _ = _
            rw [e1]
            exact HST.out.symm
          · rw [e1, List.map_append, List.map_cons, List.map_nil, HVX.out]; exact hown'
        case measure => simp [intOf]; omega
      · have hkk3 : l.take k = l.take 300 := by
          rcases (by omega : k = 300 ∨ l.length ≤ k) with h | h
          · rw [h]
          · rw [List.take_of_length_le h, List.take_of_length_le (by omega)]
        have hAe : A = allF ((l.take 300).map (valOf · T)) (5, 1, kk) T 1 := by
          rw [HA.out, hkk3, want_end kk T 1 (l.take 300) (.inr (.inl rfl)) (by simp; omega) t0 (by omega), List.length_take, show min 300 l.length = n by omega]
        have HAe := Lib.hid hAe
        have HVa : Hid (ValsAt wr u10 ((l.take 300).map (valOf · T))) := by
          show ValsAt wr u10 _
          rw [← hkk3]; exact hown.vals
        have HN : Hid (((l.take 300).map (valOf · T)).length ≤ 9223372036854775807) := by show _ ≤ _; simp; omega
        have HO : Hid (∀ x ∈ (l.take 300).map (valOf · T), okV x) := by
          intro x hx
          obtain ⟨y, _, rfl⟩ := List.mem_map.1 hx
          exact valOf_ok y T t0 (by omega)
        clear hkk3 hown hAe
        have d0 := hg.cell c0
        have d1 := hg.cell c1
        have d2 := hg.cell c2
        by_cases hk3 : k < l.length
        · have hk4 : ¬ k < 300 := by omega
          clear hlt
          go_wp2_with fail
          refine (all_any ((l.take 300).map (valOf · T)) (5, 1, kk) T 1 _ _ HN.out HO.out ⟨kk0, by show kk ≤ _; omega⟩ HVa.out).mono ?_
          rw [← HAe.out]
          rintro e w7 ⟨rfl, hg7⟩
          go_wp2_with fail
          refine (works16_any _).mono ?_
          rintro e w8 ⟨rfl, hg8⟩
          go_wp2
          go_ret
          exact ⟨rfl, ((g4.trans hg).trans hg7).trans hg8⟩
        · go_wp2_with fail
          refine (all_any ((l.take 300).map (valOf · T)) (5, 1, kk) T 1 _ _ HN.out HO.out ⟨kk0, by show kk ≤ _; omega⟩ HVa.out).mono ?_
          rw [← HAe.out]
          rintro e w7 ⟨rfl, hg7⟩
          go_wp2_with fail
          refine (works16_any _).mono ?_
          rintro e w8 ⟨rfl, hg8⟩
          go_wp2
          go_ret
          exact ⟨rfl, ((g4.trans hg).trans hg7).trans hg8⟩
  · have HR := Lib.hid hr
    clear hr
    have hs0 := want_start n (b % (1 + a % 70000)) (1 + a % 70000) 3 (.inr (.inr rfl)) (by omega) kk0 (by omega) (by omega)
    simp only [reduceIte, Int.reduceEq] at hs0
    have HS := Lib.hid hs0
    clear hs0
    go_enter Try.func7, Try.ntmps7
    go_wp2_with fail
    refine (bring_any _ _ _ a0 a1 (by omega) (by omega)).mono ?_
    rintro e w1 ⟨rfl, rfl⟩
    go_wp2_with fail
    refine (bring_any _ _ _ b0 b1 (by omega) (by omega)).mono ?_
    rw [HR.out]
    rintro e w1 ⟨rfl, rfl⟩
    go_wp2_with fail
    refine (bring_any _ _ _ b0 b1 (by omega) (by omega)).mono ?_
    rintro e w1 ⟨rfl, rfl⟩
    have HK2 := Lib.hid hkk
    generalize b % (1 + a % 70000) = kk at *
    generalize 1 + a % 70000 = T at *
    go_wp2_with fail
    refine (text_any _ _).mono ?_
    rintro e w2 ⟨rfl, hg2⟩
    have g2 := ((Grew.refl w).alloc (.cells #[.int .i64 0, .int .i64 1, .int .i64 3] 3)).trans hg2
    clear hg2
    go_wp2_with fail
    refine (bytes16_any _ _ (by omega) (by omega)).mono ?_
    rw [show (min (l.length : Int) 300).toNat = n by omega]
    rintro e w3 ⟨rfl, rfl⟩
    go_wp2_with fail
    have q0 : (w2.alloc (.cells #[.int .i64 5, .int .i64 1, .int .u64 kk] 24)).cell? ⟨w2.heap.size, 0, none⟩ = some (.int .i64 5) := by go_simp
    refine (one_any _ _ _ _ _ _ (by omega) (by omega)).mono ?_
    rintro e w4 ⟨rfl, hg4⟩
    have c0 := hg4.cell (p := ⟨w2.heap.size, 0, none⟩) (v := .int .i64 5) (by go_simp)
    have c1 := hg4.cell (p := ⟨w2.heap.size, 1, none⟩) (v := .int .i64 1) (by go_simp)
    have c2 := hg4.cell (p := ⟨w2.heap.size, 2, none⟩) (v := .int .u64 kk) (by go_simp)
    have g4 := (g2.alloc _).trans hg4
    clear hg4 q0
    go_wp2_with fail
    go_loopw [9, 10, 11] (fun want va i wr => Grew w4 wr ∧ ∃ k : Nat, k ≤ l.length ∧ k ≤ 300 ∧ i = .int .i64 k ∧ (∃ A, want = .int .i64 A ∧ Hid (A = leastOf (fun v => wantP n (5, 1, kk) T 3 ((l.take k).map (valOf · T)) v))) ∧ OwnV w4.heap.size wr va ((l.take k).map (valOf · T))) (fun _ _ i _ => 300 - (intOf i).toNat)
    case atStart => exact ⟨Grew.refl _, 0, by omega, by omega, rfl, ⟨_, rfl, HS.out.symm⟩, OwnV.nil _ _⟩
    case round =>
      obtain ⟨hg, k, hk1, hk2, rfl, ⟨A, rfl, HA⟩, hown⟩ := hrel
      by_cases hlt : k < l.length ∧ k < 300
      · obtain ⟨x, hx⟩ : ∃ x, l[k]? = some x := ⟨_, List.getElem?_eq_getElem hlt.1⟩
        obtain ⟨sa2, sc2, hse, hcc⟩ := HLi.out.grew (g4.trans hg)
        cases hse
        obtain ⟨hb, b, off, rfl, e0⟩ := hcc k x hx
        obtain ⟨hlt1, hlt2⟩ := hlt
        obtain ⟨hb0, hb1⟩ := hb
        clear hcc
        have HX := Lib.hid hx
        clear hx
        have hvk := valOf_ok x T t0 (by omega)
        obtain ⟨hv0, hv1⟩ := hvk
        have hst := want_step n kk T 3 (l.take k) x (.inr (.inr rfl)) (by omega) (by simp; omega) kk0 (by omega) t0 (by omega)
        rw [← HA.out, List.length_take, show min k l.length = k by omega] at hst
        try rw [Int.zero_add] at hst
        have HST := Lib.hid hst
        clear hst
        go_wp2_with fail
        refine (value_any x T _ hb0 hb1 (by omega) (by omega)).mono ?_
        rintro e w5 ⟨rfl, hg5⟩
        generalize hvx : valOf x T = vx at *
        obtain ⟨x0, x1, x2⟩ := vx
        have HVX := Lib.hid hvx
        clear hvx
        go_wp2_with fail
        refine (one_any _ _ _ _ _ _ hv0 hv1).mono ?_
        rintro e w6 ⟨rfl, hg6⟩
        have d0 := hg6.cell (p := ⟨w5.heap.size, 0, none⟩) (v := .int .i64 x0) (by go_simp)
        have d1 := hg6.cell (p := ⟨w5.heap.size, 1, none⟩) (v := .int .i64 x1) (by go_simp)
        have d2 := hg6.cell (p := ⟨w5.heap.size, 2, none⟩) (v := .int .u64 x2) (by go_simp)
        have G6 := Lib.hid (((hg.trans hg5).alloc (.cells #[.int .i64 x0, .int .i64 x1, .int .u64 x2] 24)).trans hg6)
        have hown3 := Lib.hid (((((hown.grew hg5).grew ((Grew.refl _).alloc (.cells #[.int .i64 x0, .int .i64 x1, .int .u64 x2] 24))).grew hg6)).grew ((Grew.refl _).alloc (.cells #[.int .i64 x0, .int .i64 x1, .int .u64 x2] 24)))
        have HLn : Hid (((l.take k).map (valOf · T)).length + [(x0, x1, x2)].length ≤ 1099511627776) := by show _ ≤ _; simp; omega
        have HBs : Hid (w4.heap.size ≤ (w6.alloc (.cells #[.int .i64 x0, .int .i64 x1, .int .u64 x2] 24)).heap.size) := by
          show _ ≤ _
          have h1 := Grew.size G6.out
          simp; omega
        clear hg hg5 hg6
        go_wp2_with (at_builtin; refine wpList_appendV rfl _ _ rfl w4.heap.size u10 _ rfl hown3.out _ [(x0, x1, x2)] rfl (built_vals w6 [(x0, x1, x2)] _) (one_ok w6) HLn.out HBs.out ?_; intro v' w' hown' hbel _)
        have hgn := Lib.hid (Below.trans (Grew.below (G6.out.alloc _)) hbel)
        clear hbel hown3
        go_wp2
        go_roundw
        case rel =>
          have e1 : l.take (k + 1) = l.take k ++ [x] := by rw [List.take_add_one, HX.out]; rfl
          refine ⟨hgn.out, k + 1, by omega, by omega, by go_num, ⟨_, rfl, ?_⟩, ?_⟩
          · show _ = _
            rw [e1]
            exact HST.out.symm
          · rw [e1, List.map_append, List.map_cons, List.map_nil, HVX.out]; exact hown'
        case measure => simp [intOf]; omega
      · have hkk3 : l.take k = l.take 300 := by
          rcases (by omega : k = 300 ∨ l.length ≤ k) with h | h
          · rw [h]
          · rw [List.take_of_length_le h, List.take_of_length_le (by omega)]
        have hAe : A = allF ((l.take 300).map (valOf · T)) (5, 1, kk) T 3 := by
          rw [HA.out, hkk3, want_end kk T 3 (l.take 300) (.inr (.inr rfl)) (by simp; omega) t0 (by omega), List.length_take, show min 300 l.length = n by omega]
        have HAe := Lib.hid hAe
        have HVa : Hid (ValsAt wr u10 ((l.take 300).map (valOf · T))) := by
          show ValsAt wr u10 _
          rw [← hkk3]; exact hown.vals
        have HN : Hid (((l.take 300).map (valOf · T)).length ≤ 9223372036854775807) := by show _ ≤ _; simp; omega
        have HO : Hid (∀ x ∈ (l.take 300).map (valOf · T), okV x) := by
          intro x hx
          obtain ⟨y, _, rfl⟩ := List.mem_map.1 hx
          exact valOf_ok y T t0 (by omega)
        clear hkk3 hown hAe
        have d0 := hg.cell c0
        have d1 := hg.cell c1
        have d2 := hg.cell c2
        by_cases hk3 : k < l.length
        · have hk4 : ¬ k < 300 := by omega
          clear hlt
          go_wp2_with fail
          refine (all_any ((l.take 300).map (valOf · T)) (5, 1, kk) T 3 _ _ HN.out HO.out ⟨kk0, by show kk ≤ _; omega⟩ HVa.out).mono ?_
          rw [← HAe.out]
          rintro e w7 ⟨rfl, hg7⟩
          go_wp2_with fail
          refine (works16_any _).mono ?_
          rintro e w8 ⟨rfl, hg8⟩
          go_wp2
          go_ret
          exact ⟨rfl, ((g4.trans hg).trans hg7).trans hg8⟩
        · go_wp2_with fail
          refine (all_any ((l.take 300).map (valOf · T)) (5, 1, kk) T 3 _ _ HN.out HO.out ⟨kk0, by show kk ≤ _; omega⟩ HVa.out).mono ?_
          rw [← HAe.out]
          rintro e w7 ⟨rfl, hg7⟩
          go_wp2_with fail
          refine (works16_any _).mono ?_
          rintro e w8 ⟨rfl, hg8⟩
          go_wp2
          go_ret
          exact ⟨rfl, ((g4.trans hg).trans hg7).trans hg8⟩

theorem fitJoined_row {H : Type} (enc : TypeId × Value → H) (W : World) (base : Nat) (v0 : Value) (d0 : DataW H) (p0 : List MemPlace) (o0 : Value.okWide Try.prog W .any base 38 v0) (k0 : DataW.Trod enc Try.prog W 0 (fun _ => true) true 38 v0 d0 p0) (v1 : Value) (d1 : DataW H) (p1 : List MemPlace) (o1 : Value.okWide Try.prog W .any base 3 v1) (k1 : DataW.Trod enc Try.prog W 0 (fun _ => true) true 3 v1 d1 p1) (v2 : Value) (d2 : DataW H) (p2 : List MemPlace) (o2 : Value.okWide Try.prog W .any base 3 v2) (k2 : DataW.Trod enc Try.prog W 0 (fun _ => true) true 3 v2 d2 p2) :
    Calls Try.prog 7 #[v0, v1, v2] W fun e w' => e = .returned (.bool true) ∧ Below W.heap.size W w' := by
  obtain ⟨l, hl, hll⟩ := open_intlist o0 k0
  obtain ⟨a, rfl, _, _, wa⟩ := open_int Try.underlying3 o1 k1
  obtain ⟨b, rfl, _, _, wb⟩ := open_int Try.underlying3 o2 k2
  exact (fitJoined_any l v0 a b W hl hll (bounds_i64 wa) (bounds_i64 wb)).mono fun e w' ⟨he, hg⟩ => ⟨he, hg.below⟩

theorem fitJoined_own : ownKnob Try.prog.godebug = none := by kernel_rfl
theorem fitJoined_laidOut : laidOutB Try.prog = true := by kernel_rfl

set_option maxRecDepth 100000 in
theorem fitJoined_lifted (os : Os) (started : os.Started) (H : Type) (enc : TypeId × Value → H) :
    ReturnsInHanded {} Try.checked os 7 .any (Rows.fitJoinedSpec.pre6 enc Try.prog Try.f7 Rows.fitJoinedRow.domain false) (Rows.fitJoinedSpec.post enc Try.prog Try.f7 false true false false) := by
  refine returnsInHanded_of_change (C := Try.checked) fitJoined_own started (by kernel_rfl) Try.func7
    (ChangeSpec.witness6 (enc := enc) (C := Try.checked) false ⟨#[], #[.slice none 0 0, .int .i64 0, .int .i64 0], []⟩ 8 (by kernel_rfl) (by kernel_rfl) (by kernel_rfl) (by kernel_rfl)) ?_
  intro W base args ds gs before hval0 hW hcnd _
  have hval : ∀ (j : Nat) t v, Try.f7.params[j]? = some t → args[j]? = some v → Value.okWide Try.prog W .any base t v := hval0
  have hW' := hW
  obtain ⟨p, q, hA0, hV, rfl, hfz, hnd⟩ := hW
  have hA : DataW.TrodAll enc Try.prog W 0 (fun _ => true) true Try.f7.params.toList args.toList ds p := hA0
  rw [Try.params7] at hA hval
  obtain ⟨v0, vs0, d0, ds0, p0, q0, hargs, rfl, rfl, h0, r0⟩ := trodAll_cons hA
  obtain ⟨v1, vs1, d1, ds1, p1, q1, rfl, rfl, rfl, h1, r1⟩ := trodAll_cons r0
  obtain ⟨v2, vs2, d2, ds2, p2, q2, rfl, rfl, rfl, h2, r2⟩ := trodAll_cons r1
  obtain ⟨rfl, rfl, rfl⟩ := trodAll_nil r2
  obtain rfl : args = #[v0, v1, v2] := by cases args; simp_all
  obtain ⟨rfl, rfl⟩ := trodVars_none hV
  have lt0 : ∀ x ∈ p0, x.block < W.heap.size := by obtain ⟨m, hm⟩ := h0; exact DataW.trod_lt m _ _ _ hm
  have lt1 : ∀ x ∈ p1, x.block < W.heap.size := by obtain ⟨m, hm⟩ := h1; exact DataW.trod_lt m _ _ _ hm
  have lt2 : ∀ x ∈ p2, x.block < W.heap.size := by obtain ⟨m, hm⟩ := h2; exact DataW.trod_lt m _ _ _ hm
  have hw := fitJoined_row enc W base v0 d0 p0 (hval 0 38 v0 rfl rfl) h0 v1 d1 p1 (hval 1 3 v1 rfl rfl) h1 v2 d2 p2 (hval 2 3 v2 rfl rfl) h2
  clear hA0 hval0
  refine hw.mono fun e W' ⟨he, bel⟩ => ?_
  subst he
  exact ⟨_, rfl, _, _, _, [], _, [], hW', trodAll_mk1 (shut_bool Try.underlying4 _), (trodAll_cons_mk (Below.trod fitJoined_laidOut (by kernel_rfl) (of_decide_eq_true (by kernel_rfl)) h0 bel lt0) (trodAll_cons_mk (Below.trod fitJoined_laidOut (by kernel_rfl) (of_decide_eq_true (by kernel_rfl)) h1 bel lt1) (trodAll_cons_mk (Below.trod fitJoined_laidOut (by kernel_rfl) (of_decide_eq_true (by kernel_rfl)) h2 bel lt2) trodAll_mk0))), rfl, Below.frame bel _, fun h => by cases h⟩

/-- The statement. -/
theorem fitJoined_holds : Rows.FitJoinedSaid :=
  OpenClaim.holds_of_wide 7 Try.f7 rfl rfl rfl rfl rfl rfl rfl ⟨rfl, rfl, rfl, rfl, rfl⟩ rfl rfl rfl rfl rfl (by kernel_rfl) Try.func7 (by kernel_rfl)
    (of_decide_eq_true (by kernel_rfl)) (by unfold Func.isWrapper; first | (rw [if_pos (by decide +kernel)]; kernel_rfl) | (rw [if_neg (by decide +kernel)]; exact ⟨rfl, rfl⟩))
    (fun os started H enc _ => fitJoined_lifted os started H enc)

end Go.Proofs.Ytkabfefphdgppaa
