/-
  BufStays: appended bytes stay unchanged and in order unless Cut removes them.
-/
import Derived.Test.YtejaklkageieoaaRows
import Derived.Test.YtejaklkageieoaaBufOpen
import Derived.Test.YtejaklkageieoaaBufPlain
import Derived.ProofKit
import Derived.OpenShut
import Derived.ShutString
import Derived.ChangeOld
import Derived.Below
import Derived.Lib.SmallJoins
namespace Go.Proofs.Ytejaklkageieoaa
open Go Go.ChangeShapes Go.WideShapes Go.ChangeAt Go.RowKit Go.Joins
open Go.ChangeMaps (open_string shut_string)
set_option linter.unusedVariables false
set_option linter.unusedSimpArgs false

theorem BytesAt.first {w : World} {a : Option Addr} {c : Nat} {l : List UInt8} (h : BytesAt w (.slice a l.length c) l) (k : Nat) (hk : k ≤ l.length) : BytesAt w (.slice a k c) (l.take k) := by
  obtain ⟨a', c', e, h2, h3, h4⟩ := h
  injection e with e1 _ e3
  subst e1 e3
  have hl : (l.take k).length = k := by rw [List.length_take]; omega
  refine ⟨a, c, by rw [hl], by rw [hl]; omega, h3, fun i b hb => h4 i b ?_⟩
  rw [List.getElem?_take] at hb
  split at hb
  · exact hb
  · cases hb
theorem stays_plain {d : DoV} {s : St} (hd : d.ok) (he : s.2 = 0) (hl : s.1.length ≤ 1000000) :
    (s.1.length ≤ (fineS 1048576 d s).1.length ∧ (fineS 1048576 d s).1.take s.1.length = s.1) ∨ ((fineS 1048576 d s).1.length < s.1.length ∧ s.1.take (fineS 1048576 d s).1.length = (fineS 1048576 d s).1 ∧ d.kind % 5 = 3) := by
  obtain ⟨l, e⟩ := s
  simp only at he hl
  subst he
  obtain ⟨f1, f2⟩ := fine_form (l := l) hd hl
  by_cases h3 : d.kind % 5 = 3
  · obtain ⟨k, hk, e⟩ := f1 h3
    rw [e]
    by_cases hkl : k = l.length
    · left; subst hkl; simp
    · right
      have hk2 : (l.take k).length = k := by rw [List.length_take]; omega
      refine ⟨by show (l.take k).length < l.length; omega, ?_, h3⟩
      show l.take (l.take k).length = l.take k
      rw [hk2]
  · obtain ⟨y, hy, e⟩ := f2 h3
    rw [e]
    left
    exact ⟨by simp, List.take_left⟩
theorem outS_ok {s : St} (h : s.2 = 0) : outS s = s.1 := if_pos h
/-- fine, and bytes that lay apart read as they read. -/
theorem fineKeep {w0 wb wa : World} {p : Nat} {most : Int} {s : St} (d : DoV) (hd : d.ok) (h : Live w0 wb p most s) (hg : Grew wb wa) (v : Value) (x : List UInt8) (ho : wa.ownsRow wb.heap.size 5 1 v x.length (Lib.byteCells x)) :
    Calls Try.prog 20 #[bptr p, doV d] wa fun r w' => r = .returned (.tuple #[]) ∧ Live w0 w' p most (fineS most d s) ∧ BytesAt w' v x := by
  obtain ⟨o, h1, h2, h3, h4⟩ := h
  have h2' : Below w0.heap.size w0 wa := Below.trans h2 (Below.mono hg h2.size)
  refine (fine_any s d hd (h1.grew hg) h2'.size h3 h4).mono fun r w' ⟨hr, ht⟩ => ⟨hr, Live.turn (h1.grew hg) h2' ht (fineS_le h3) h4, ?_⟩
  obtain ⟨o1, t1, t2, t3⟩ := ht
  refine BytesAt.of_own (t3.owns ho (fun k hk hown => ?_))
  have := (World.ownsRow.lt ho k hk).1
  have := h1.lt k hown
  omega
set_option maxRecDepth 100000 in
set_option maxHeartbeats 8000000 in
theorem bufStays_any (lv : Value) (l : List DoV) (w : World) (hl : DosAt w lv l) (hlen : l.length ≤ 9223372036854775807) (hok : ∀ x ∈ l, DoV.ok x) :
    Calls Try.prog 4 #[lv] w fun r w' => r = .returned (.bool true) ∧ Below w.heap.size w w' := by
  have HLV := Lib.hid hl
  obtain ⟨a0, cap, rfl, hcap, _⟩ := hl
  have HOK := Lib.hid hok
  clear hok
  go_enter Try.func4, Try.ntmps4
  go_wp2_with fail
  refine (works_any _).mono ?_
  rintro r u0 ⟨rfl, hb⟩
  have HB0 := Lib.hid hb
  clear hb
  go_wp2_with fail
  refine (newL (w0 := w) 1048576 HB0.out).mono ?_
  rw [show roomOf 1048576 = 1048576 by kernel_rfl]
  rintro r u1 ⟨rfl, h, hg, hlt⟩
  have H := Lib.hid h
  clear h hg hlt
  generalize u0.heap.size = p at *
  go_wp2_with fail
  go_loopw [4] (fun i wr => ∃ k : Nat, k ≤ l.length ∧ k ≤ 60 ∧ i = .int .i64 k ∧ ∃ s : St, Live w wr p 1048576 s ∧ s.2 = 0 ∧ s.1.length ≤ 48 * k) (fun i _ => l.length - (intOf i).toNat)
  case atStart => exact ⟨0, Nat.zero_le _, by omega, rfl, ([], 0), H.out, rfl, by simp⟩
  case round =>
    obtain ⟨k, hk, hk60, rfl, s, hw1, hw2, hw3⟩ := hrel
    have HW := Lib.hid hw1
    have HW2 := Lib.hid hw2
    clear hw1 hw2
    by_cases hgo : k < l.length ∧ k < 60
    · obtain ⟨hlt, h60⟩ := hgo
      obtain ⟨b, off, c, e1, hbw, hcl⟩ := HLV.out.nth k hlt
      have hd := HOK.out l[k] (List.getElem_mem hlt)
      have HD := Lib.hid hd
      generalize l[k] = dd at *
      injection e1 with e1 _ e3
      subst e1 e3
      have HC := Lib.hid hcl
      clear hd hcl H
      have HB2 : Hid ((fineS 1048576 dd s).2 = 0 ∧ (fineS 1048576 dd s).1.length ≤ 48 * (k + 1)) := fine_bound HD.out HW2.out (by omega)
      have HCASE := Lib.hid (stays_plain (d := dd) HD.out HW2.out (by omega))
      go_wp2_with fail
      refine (bytesL HW.out).mono ?_
      rw [outS_ok HW2.out, HW2.out]
      rintro r wa ⟨v1, rfl, hv1, ho1, hg1⟩
      have HV1 := Lib.hid hv1
      obtain ⟨a1, c1, rfl, hc1, _⟩ := hv1
      have HO1 := Lib.hid ho1
      have HG1 := Lib.hid hg1
      have HLa := Lib.hid (HW.out.grew hg1)
      clear hg1 ho1
      obtain ⟨d0, d1, d2, d3, d4⟩ := HC.out.below HLa.out.below hbw
      go_wp2_with fail
      refine (fineKeep dd HD.out HW.out HG1.out _ _ HO1.out).mono ?_
      rintro r wb ⟨rfl, h, hkeep⟩
      have HLb := Lib.hid h
      have HK := Lib.hid hkeep
      generalize fineS 1048576 dd s = s2 at *
      clear h hkeep d0 d1 d2 d3 d4
      go_wp2_with fail
      refine (bytesL HLb.out).mono ?_
      rw [outS_ok HB2.out.1, HB2.out.1]
      rintro r wc ⟨v2, rfl, hv2, _, hg2⟩
      have HV2 := Lib.hid hv2
      obtain ⟨a2, c2, rfl, hc2, _⟩ := hv2
      have HL := Lib.hid (HLb.out.grew hg2)
      have HV12 := Lib.hid (HK.out.grew hg2)
      clear hg2
      obtain ⟨d0, _, _, _, _⟩ := HC.out.below HL.out.below hbw
      rcases HCASE.out with ⟨hcs, hce⟩ | ⟨hcs, hce, hc3⟩
      · have HE1 := Lib.hid (HV12.out.first s.1.length (Nat.le_refl _))
        have HE2 := Lib.hid (HV2.out.first s.1.length hcs)
        have HEQ : Hid (s.1.take s.1.length = s2.1.take s.1.length) := by show _ = _; rw [hce, List.take_length]
        have hL1 : s.1.length ≤ c2 := by omega
        clear hce HCASE
        go_wp2_with fail
        refine wp_region_tables Grew [[], [0], [1], [2], [2, 3], [2, 4], [5], [6], [6], [6, 7, 8], [6], [6], [6, 10, 11], [6, 9, 12], [6, 13], [6, 14], [15], [16], [16, 17], [16], [16, 19], [16, 18, 20], [16, 21], [22], [22], [22, 23, 24], [22, 25], [22, 26], [22, 27], [22, 28], [16, 22, 29], [16, 30], [31], [32], [32, 33], [32], [32, 35], [32, 34, 36], [32, 37]] [[(46, 2), (47, 3), (48, 4), (49, 5), (50, 6), (51, 7), (52, 8), (53, 9), (54, 10), (55, 11), (56, 12), (57, 13), (58, 14), (59, 15), (60, 16), (61, 17), (62, 18), (63, 19), (64, 20), (65, 21), (66, 22), (67, 23), (68, 24), (69, 25), (70, 26), (71, 27), (72, 28), (73, 29), (74, 30), (75, 31), (76, 32), (77, 33), (78, 34), (79, 35), (80, 36), (81, 37), (82, 38)], [(44, 0), (47, 3), (48, 4), (49, 5), (50, 6), (51, 7), (52, 8), (53, 9), (54, 10), (55, 11), (56, 12), (57, 13), (58, 14), (59, 15), (60, 16), (61, 17), (62, 18), (63, 19), (64, 20), (65, 21), (66, 22), (67, 23), (68, 24), (69, 25), (70, 26), (71, 27), (72, 28), (73, 29), (74, 30), (75, 31), (76, 32), (77, 33), (78, 34), (79, 35), (80, 36), (81, 37), (82, 38)], [(44, 0), (45, 1), (50, 6), (51, 7), (52, 8), (53, 9), (54, 10), (55, 11), (56, 12), (57, 13), (58, 14), (59, 15), (60, 16), (61, 17), (62, 18), (63, 19), (64, 20), (65, 21), (66, 22), (67, 23), (68, 24), (69, 25), (70, 26), (71, 27), (72, 28), (73, 29), (74, 30), (75, 31), (76, 32), (77, 33), (78, 34), (79, 35), (80, 36), (81, 37), (82, 38)], [(44, 0), (45, 1), (46, 2), (49, 5), (50, 6), (51, 7), (52, 8), (53, 9), (54, 10), (55, 11), (56, 12), (57, 13), (58, 14), (59, 15), (60, 16), (61, 17), (62, 18), (63, 19), (64, 20), (65, 21), (66, 22), (67, 23), (68, 24), (69, 25), (70, 26), (71, 27), (72, 28), (73, 29), (74, 30), (75, 31), (76, 32), (77, 33), (78, 34), (79, 35), (80, 36), (81, 37), (82, 38)], [(44, 0), (45, 1), (46, 2), (47, 3), (50, 6), (51, 7), (52, 8), (53, 9), (54, 10), (55, 11), (56, 12), (57, 13), (58, 14), (59, 15), (60, 16), (61, 17), (62, 18), (63, 19), (64, 20), (65, 21), (66, 22), (67, 23), (68, 24), (69, 25), (70, 26), (71, 27), (72, 28), (73, 29), (74, 30), (75, 31), (76, 32), (77, 33), (78, 34), (79, 35), (80, 36), (81, 37), (82, 38)], [(44, 0), (45, 1), (46, 2), (47, 3), (48, 4), (51, 7), (52, 8), (53, 9), (54, 10), (55, 11), (56, 12), (57, 13), (58, 14), (59, 15), (60, 16), (61, 17), (62, 18), (63, 19), (64, 20), (65, 21), (66, 22), (67, 23), (68, 24), (69, 25), (70, 26), (71, 27), (72, 28), (73, 29), (74, 30), (75, 31), (76, 32), (77, 33), (78, 34), (79, 35), (80, 36), (81, 37), (82, 38)], [(44, 0), (45, 1), (46, 2), (47, 3), (48, 4), (49, 5), (60, 16), (61, 17), (62, 18), (63, 19), (64, 20), (65, 21), (66, 22), (67, 23), (68, 24), (69, 25), (70, 26), (71, 27), (72, 28), (73, 29), (74, 30), (75, 31), (76, 32), (77, 33), (78, 34), (79, 35), (80, 36), (81, 37), (82, 38)], [(44, 0), (45, 1), (46, 2), (47, 3), (48, 4), (49, 5), (50, 6), (52, 8), (54, 10), (55, 11), (56, 12), (57, 13), (58, 14), (59, 15), (60, 16), (61, 17), (62, 18), (63, 19), (64, 20), (65, 21), (66, 22), (67, 23), (68, 24), (69, 25), (70, 26), (71, 27), (72, 28), (73, 29), (74, 30), (75, 31), (76, 32), (77, 33), (78, 34), (79, 35), (80, 36), (81, 37), (82, 38)], [(44, 0), (45, 1), (46, 2), (47, 3), (48, 4), (49, 5), (50, 6), (51, 7), (54, 10), (55, 11), (56, 12), (57, 13), (58, 14), (59, 15), (60, 16), (61, 17), (62, 18), (63, 19), (64, 20), (65, 21), (66, 22), (67, 23), (68, 24), (69, 25), (70, 26), (71, 27), (72, 28), (73, 29), (74, 30), (75, 31), (76, 32), (77, 33), (78, 34), (79, 35), (80, 36), (81, 37), (82, 38)], [(44, 0), (45, 1), (46, 2), (47, 3), (48, 4), (49, 5), (50, 6), (51, 7), (52, 8), (54, 10), (55, 11), (56, 12), (58, 14), (59, 15), (60, 16), (61, 17), (62, 18), (63, 19), (64, 20), (65, 21), (66, 22), (67, 23), (68, 24), (69, 25), (70, 26), (71, 27), (72, 28), (73, 29), (74, 30), (75, 31), (76, 32), (77, 33), (78, 34), (79, 35), (80, 36), (81, 37), (82, 38)], [(44, 0), (45, 1), (46, 2), (47, 3), (48, 4), (49, 5), (50, 6), (51, 7), (52, 8), (53, 9), (55, 11), (57, 13), (58, 14), (59, 15), (60, 16), (61, 17), (62, 18), (63, 19), (64, 20), (65, 21), (66, 22), (67, 23), (68, 24), (69, 25), (70, 26), (71, 27), (72, 28), (73, 29), (74, 30), (75, 31), (76, 32), (77, 33), (78, 34), (79, 35), (80, 36), (81, 37), (82, 38)], [(44, 0), (45, 1), (46, 2), (47, 3), (48, 4), (49, 5), (50, 6), (51, 7), (52, 8), (53, 9), (54, 10), (57, 13), (58, 14), (59, 15), (60, 16), (61, 17), (62, 18), (63, 19), (64, 20), (65, 21), (66, 22), (67, 23), (68, 24), (69, 25), (70, 26), (71, 27), (72, 28), (73, 29), (74, 30), (75, 31), (76, 32), (77, 33), (78, 34), (79, 35), (80, 36), (81, 37), (82, 38)], [(44, 0), (45, 1), (46, 2), (47, 3), (48, 4), (49, 5), (50, 6), (51, 7), (52, 8), (53, 9), (54, 10), (55, 11), (58, 14), (59, 15), (60, 16), (61, 17), (62, 18), (63, 19), (64, 20), (65, 21), (66, 22), (67, 23), (68, 24), (69, 25), (70, 26), (71, 27), (72, 28), (73, 29), (74, 30), (75, 31), (76, 32), (77, 33), (78, 34), (79, 35), (80, 36), (81, 37), (82, 38)], [(44, 0), (45, 1), (46, 2), (47, 3), (48, 4), (49, 5), (50, 6), (51, 7), (52, 8), (53, 9), (54, 10), (55, 11), (56, 12), (59, 15), (60, 16), (61, 17), (62, 18), (63, 19), (64, 20), (65, 21), (66, 22), (67, 23), (68, 24), (69, 25), (70, 26), (71, 27), (72, 28), (73, 29), (74, 30), (75, 31), (76, 32), (77, 33), (78, 34), (79, 35), (80, 36), (81, 37), (82, 38)], [(44, 0), (45, 1), (46, 2), (47, 3), (48, 4), (49, 5), (50, 6), (51, 7), (52, 8), (53, 9), (54, 10), (55, 11), (56, 12), (57, 13), (60, 16), (61, 17), (62, 18), (63, 19), (64, 20), (65, 21), (66, 22), (67, 23), (68, 24), (69, 25), (70, 26), (71, 27), (72, 28), (73, 29), (74, 30), (75, 31), (76, 32), (77, 33), (78, 34), (79, 35), (80, 36), (81, 37), (82, 38)], [(44, 0), (45, 1), (46, 2), (47, 3), (48, 4), (49, 5), (50, 6), (51, 7), (52, 8), (53, 9), (54, 10), (55, 11), (56, 12), (57, 13), (58, 14), (61, 17), (62, 18), (63, 19), (64, 20), (65, 21), (66, 22), (67, 23), (68, 24), (69, 25), (70, 26), (71, 27), (72, 28), (73, 29), (74, 30), (75, 31), (76, 32), (77, 33), (78, 34), (79, 35), (80, 36), (81, 37), (82, 38)], [(44, 0), (45, 1), (46, 2), (47, 3), (48, 4), (49, 5), (50, 6), (51, 7), (52, 8), (53, 9), (54, 10), (55, 11), (56, 12), (57, 13), (58, 14), (59, 15), (67, 23), (68, 24), (69, 25), (70, 26), (71, 27), (72, 28), (73, 29), (76, 32), (77, 33), (78, 34), (79, 35), (80, 36), (81, 37), (82, 38)], [(44, 0), (45, 1), (46, 2), (47, 3), (48, 4), (49, 5), (50, 6), (51, 7), (52, 8), (53, 9), (54, 10), (55, 11), (56, 12), (57, 13), (58, 14), (59, 15), (60, 16), (63, 19), (64, 20), (65, 21), (66, 22), (67, 23), (68, 24), (69, 25), (70, 26), (71, 27), (72, 28), (73, 29), (74, 30), (75, 31), (76, 32), (77, 33), (78, 34), (79, 35), (80, 36), (81, 37), (82, 38)], [(44, 0), (45, 1), (46, 2), (47, 3), (48, 4), (49, 5), (50, 6), (51, 7), (52, 8), (53, 9), (54, 10), (55, 11), (56, 12), (57, 13), (58, 14), (59, 15), (60, 16), (61, 17), (63, 19), (64, 20), (66, 22), (67, 23), (68, 24), (69, 25), (70, 26), (71, 27), (72, 28), (73, 29), (74, 30), (75, 31), (76, 32), (77, 33), (78, 34), (79, 35), (80, 36), (81, 37), (82, 38)], [(44, 0), (45, 1), (46, 2), (47, 3), (48, 4), (49, 5), (50, 6), (51, 7), (52, 8), (53, 9), (54, 10), (55, 11), (56, 12), (57, 13), (58, 14), (59, 15), (60, 16), (61, 17), (62, 18), (65, 21), (66, 22), (67, 23), (68, 24), (69, 25), (70, 26), (71, 27), (72, 28), (73, 29), (74, 30), (75, 31), (76, 32), (77, 33), (78, 34), (79, 35), (80, 36), (81, 37), (82, 38)], [(44, 0), (45, 1), (46, 2), (47, 3), (48, 4), (49, 5), (50, 6), (51, 7), (52, 8), (53, 9), (54, 10), (55, 11), (56, 12), (57, 13), (58, 14), (59, 15), (60, 16), (61, 17), (62, 18), (63, 19), (66, 22), (67, 23), (68, 24), (69, 25), (70, 26), (71, 27), (72, 28), (73, 29), (74, 30), (75, 31), (76, 32), (77, 33), (78, 34), (79, 35), (80, 36), (81, 37), (82, 38)], [(44, 0), (45, 1), (46, 2), (47, 3), (48, 4), (49, 5), (50, 6), (51, 7), (52, 8), (53, 9), (54, 10), (55, 11), (56, 12), (57, 13), (58, 14), (59, 15), (60, 16), (61, 17), (62, 18), (63, 19), (64, 20), (67, 23), (68, 24), (69, 25), (70, 26), (71, 27), (72, 28), (73, 29), (74, 30), (75, 31), (76, 32), (77, 33), (78, 34), (79, 35), (80, 36), (81, 37), (82, 38)], [(44, 0), (45, 1), (46, 2), (47, 3), (48, 4), (49, 5), (50, 6), (51, 7), (52, 8), (53, 9), (54, 10), (55, 11), (56, 12), (57, 13), (58, 14), (59, 15), (60, 16), (61, 17), (62, 18), (63, 19), (64, 20), (65, 21), (75, 31), (76, 32), (77, 33), (78, 34), (79, 35), (80, 36), (81, 37), (82, 38)], [(44, 0), (45, 1), (46, 2), (47, 3), (48, 4), (49, 5), (50, 6), (51, 7), (52, 8), (53, 9), (54, 10), (55, 11), (56, 12), (57, 13), (58, 14), (59, 15), (60, 16), (61, 17), (62, 18), (63, 19), (64, 20), (65, 21), (66, 22), (68, 24), (70, 26), (71, 27), (72, 28), (73, 29), (74, 30), (75, 31), (76, 32), (77, 33), (78, 34), (79, 35), (80, 36), (81, 37), (82, 38)], [(44, 0), (45, 1), (46, 2), (47, 3), (48, 4), (49, 5), (50, 6), (51, 7), (52, 8), (53, 9), (54, 10), (55, 11), (56, 12), (57, 13), (58, 14), (59, 15), (60, 16), (61, 17), (62, 18), (63, 19), (64, 20), (65, 21), (66, 22), (67, 23), (70, 26), (71, 27), (72, 28), (73, 29), (74, 30), (75, 31), (76, 32), (77, 33), (78, 34), (79, 35), (80, 36), (81, 37), (82, 38)], [(44, 0), (45, 1), (46, 2), (47, 3), (48, 4), (49, 5), (50, 6), (51, 7), (52, 8), (53, 9), (54, 10), (55, 11), (56, 12), (57, 13), (58, 14), (59, 15), (60, 16), (61, 17), (62, 18), (63, 19), (64, 20), (65, 21), (66, 22), (67, 23), (68, 24), (71, 27), (72, 28), (73, 29), (74, 30), (75, 31), (76, 32), (77, 33), (78, 34), (79, 35), (80, 36), (81, 37), (82, 38)], [(44, 0), (45, 1), (46, 2), (47, 3), (48, 4), (49, 5), (50, 6), (51, 7), (52, 8), (53, 9), (54, 10), (55, 11), (56, 12), (57, 13), (58, 14), (59, 15), (60, 16), (61, 17), (62, 18), (63, 19), (64, 20), (65, 21), (66, 22), (67, 23), (68, 24), (69, 25), (72, 28), (73, 29), (74, 30), (75, 31), (76, 32), (77, 33), (78, 34), (79, 35), (80, 36), (81, 37), (82, 38)], [(44, 0), (45, 1), (46, 2), (47, 3), (48, 4), (49, 5), (50, 6), (51, 7), (52, 8), (53, 9), (54, 10), (55, 11), (56, 12), (57, 13), (58, 14), (59, 15), (60, 16), (61, 17), (62, 18), (63, 19), (64, 20), (65, 21), (66, 22), (67, 23), (68, 24), (69, 25), (70, 26), (73, 29), (74, 30), (75, 31), (76, 32), (77, 33), (78, 34), (79, 35), (80, 36), (81, 37), (82, 38)], [(44, 0), (45, 1), (46, 2), (47, 3), (48, 4), (49, 5), (50, 6), (51, 7), (52, 8), (53, 9), (54, 10), (55, 11), (56, 12), (57, 13), (58, 14), (59, 15), (60, 16), (61, 17), (62, 18), (63, 19), (64, 20), (65, 21), (66, 22), (67, 23), (68, 24), (69, 25), (70, 26), (71, 27), (74, 30), (75, 31), (76, 32), (77, 33), (78, 34), (79, 35), (80, 36), (81, 37), (82, 38)], [(44, 0), (45, 1), (46, 2), (47, 3), (48, 4), (49, 5), (50, 6), (51, 7), (52, 8), (53, 9), (54, 10), (55, 11), (56, 12), (57, 13), (58, 14), (59, 15), (60, 16), (61, 17), (62, 18), (63, 19), (64, 20), (65, 21), (66, 22), (67, 23), (68, 24), (69, 25), (70, 26), (71, 27), (72, 28), (75, 31), (76, 32), (77, 33), (78, 34), (79, 35), (80, 36), (81, 37), (82, 38)], [(44, 0), (45, 1), (46, 2), (47, 3), (48, 4), (49, 5), (50, 6), (51, 7), (52, 8), (53, 9), (54, 10), (55, 11), (56, 12), (57, 13), (58, 14), (59, 15), (60, 16), (61, 17), (62, 18), (63, 19), (64, 20), (65, 21), (66, 22), (67, 23), (68, 24), (69, 25), (70, 26), (71, 27), (72, 28), (73, 29), (76, 32), (77, 33), (78, 34), (79, 35), (80, 36), (81, 37), (82, 38)], [(44, 0), (45, 1), (46, 2), (47, 3), (48, 4), (49, 5), (50, 6), (51, 7), (52, 8), (53, 9), (54, 10), (55, 11), (56, 12), (57, 13), (58, 14), (59, 15), (60, 16), (61, 17), (62, 18), (63, 19), (64, 20), (65, 21), (66, 22), (67, 23), (68, 24), (69, 25), (70, 26), (71, 27), (72, 28), (73, 29), (74, 30), (77, 33), (78, 34), (79, 35), (80, 36), (81, 37), (82, 38)], [(44, 0), (45, 1), (46, 2), (47, 3), (48, 4), (49, 5), (50, 6), (51, 7), (52, 8), (53, 9), (54, 10), (55, 11), (56, 12), (57, 13), (58, 14), (59, 15), (60, 16), (61, 17), (62, 18), (63, 19), (64, 20), (65, 21), (66, 22), (67, 23), (68, 24), (69, 25), (70, 26), (71, 27), (72, 28), (73, 29), (74, 30), (75, 31)], [(44, 0), (45, 1), (46, 2), (47, 3), (48, 4), (49, 5), (50, 6), (51, 7), (52, 8), (53, 9), (54, 10), (55, 11), (56, 12), (57, 13), (58, 14), (59, 15), (60, 16), (61, 17), (62, 18), (63, 19), (64, 20), (65, 21), (66, 22), (67, 23), (68, 24), (69, 25), (70, 26), (71, 27), (72, 28), (73, 29), (74, 30), (75, 31), (76, 32), (79, 35), (80, 36), (81, 37), (82, 38)], [(44, 0), (45, 1), (46, 2), (47, 3), (48, 4), (49, 5), (50, 6), (51, 7), (52, 8), (53, 9), (54, 10), (55, 11), (56, 12), (57, 13), (58, 14), (59, 15), (60, 16), (61, 17), (62, 18), (63, 19), (64, 20), (65, 21), (66, 22), (67, 23), (68, 24), (69, 25), (70, 26), (71, 27), (72, 28), (73, 29), (74, 30), (75, 31), (76, 32), (77, 33), (79, 35), (80, 36), (82, 38)], [(44, 0), (45, 1), (46, 2), (47, 3), (48, 4), (49, 5), (50, 6), (51, 7), (52, 8), (53, 9), (54, 10), (55, 11), (56, 12), (57, 13), (58, 14), (59, 15), (60, 16), (61, 17), (62, 18), (63, 19), (64, 20), (65, 21), (66, 22), (67, 23), (68, 24), (69, 25), (70, 26), (71, 27), (72, 28), (73, 29), (74, 30), (75, 31), (76, 32), (77, 33), (78, 34), (81, 37), (82, 38)], [(44, 0), (45, 1), (46, 2), (47, 3), (48, 4), (49, 5), (50, 6), (51, 7), (52, 8), (53, 9), (54, 10), (55, 11), (56, 12), (57, 13), (58, 14), (59, 15), (60, 16), (61, 17), (62, 18), (63, 19), (64, 20), (65, 21), (66, 22), (67, 23), (68, 24), (69, 25), (70, 26), (71, 27), (72, 28), (73, 29), (74, 30), (75, 31), (76, 32), (77, 33), (78, 34), (79, 35), (82, 38)], [(44, 0), (45, 1), (46, 2), (47, 3), (48, 4), (49, 5), (50, 6), (51, 7), (52, 8), (53, 9), (54, 10), (55, 11), (56, 12), (57, 13), (58, 14), (59, 15), (60, 16), (61, 17), (62, 18), (63, 19), (64, 20), (65, 21), (66, 22), (67, 23), (68, 24), (69, 25), (70, 26), (71, 27), (72, 28), (73, 29), (74, 30), (75, 31), (76, 32), (77, 33), (78, 34), (79, 35), (80, 36)], [(44, 0), (45, 1), (46, 2), (47, 3), (48, 4), (49, 5), (50, 6), (51, 7), (52, 8), (53, 9), (54, 10), (55, 11), (56, 12), (57, 13), (58, 14), (59, 15), (60, 16), (61, 17), (62, 18), (63, 19), (64, 20), (65, 21), (66, 22), (67, 23), (68, 24), (69, 25), (70, 26), (71, 27), (72, 28), (73, 29), (74, 30), (75, 31), (76, 32), (77, 33), (78, 34), (79, 35), (80, 36), (81, 37)]] [(44, 0), (45, 1), (46, 2), (47, 3), (48, 4), (49, 5), (50, 6), (51, 7), (52, 8), (53, 9), (54, 10), (55, 11), (56, 12), (57, 13), (58, 14), (59, 15), (60, 16), (61, 17), (62, 18), (63, 19), (64, 20), (65, 21), (66, 22), (67, 23), (68, 24), (69, 25), (70, 26), (71, 27), (72, 28), (73, 29), (74, 30), (75, 31), (76, 32), (77, 33), (78, 34), (79, 35), (80, 36), (81, 37), (82, 38)]
          [Is (.int .i64 0), Is (.bool false), Is (.bool false), Is (.int .i64 0), Is (.bool false), Is (.bool false), Is (.bool false), Is (.slice a1 s.1.length c1), Is (.int .i64 (s.1.length : Int)), Is (.slice a1 s.1.length c1), Is (.slice a2 s2.1.length c2), Is (.int .i64 (s.1.length : Int)), Is (.slice a2 s.1.length c2), Is (.bool true), Is (.bool false), Is (.bool false), Is (.bool false), Is (.slice a2 s2.1.length c2), Is (.int .i64 (s2.1.length : Int)), Is (.slice a1 s.1.length c1), Is (.int .i64 (s.1.length : Int)), Is (.bool false), Is (.bool false), Is (undef), Is (undef), Is (undef), Is (undef), Is (undef), Is (undef), Is (undef), Is (.bool false), Is (.bool false), Is (.bool false), Is (bptr p), Is (.int .i64 (s2.1.length : Int)), Is (.slice a2 s2.1.length c2), Is (.int .i64 (s2.1.length : Int)), Is (.bool false), Is (.bool false)]
          (by kernel_rfl) Grew.trans Grew.refl (Grew.refl _).drew (by kernel_rfl) ⟨is_st, is_st, is_st, is_st, is_st, is_st, is_st, is_st, is_st, is_st, is_st, is_st, is_st, is_st, is_st, is_st, is_st, is_st, is_st, is_st, is_st, is_st, is_st, is_st, is_st, is_st, is_st, is_st, is_st, is_st, is_st, is_st, is_st, is_st, is_st, is_st, is_st, is_st, is_st, trivial⟩ ⟨?_, ?_, ?_, ?_, ?_, ?_, ?_, ?_, ?_, ?_, ?_, ?_, ?_, ?_, ?_, ?_, ?_, ?_, ?_, ?_, ?_, ?_, ?_, ?_, ?_, ?_, ?_, ?_, ?_, ?_, ?_, ?_, ?_, ?_, ?_, ?_, ?_, ?_, ?_, trivial⟩ rfl ?_
        · intro y w2 hG hD K hK
          simp only [fillL, Act.put, List.setIfInBounds_toArray, List.set_cons_zero, List.set_cons_succ, List.getD_cons_zero, List.getD_cons_succ, Is] at hK ⊢
          refine ite_yes (by rfl) ?_
          go_simp
          exact hK _ _ _ rfl (Grew.refl _) rfl
        · intro y w2 hG hD K hK
          simp only [depsH, List.getD_cons_zero, List.getD_cons_succ, Is, and_true] at hD
          have h0 := hD
          clear hD
          simp only [fillL, Act.put, List.setIfInBounds_toArray, List.set_cons_zero, List.set_cons_succ, List.getD_cons_zero, List.getD_cons_succ, Is] at hK ⊢
          rw [h0] at hK ⊢
          clear h0
          refine ite_yes (by rfl) ?_
          go_simp
          exact hK _ _ _ rfl (Grew.refl _) rfl
        · intro y w2 hG hD K hK
          simp only [depsH, List.getD_cons_zero, List.getD_cons_succ, Is, and_true] at hD
          have h1 := hD
          clear hD
          simp only [fillL, Act.put, List.setIfInBounds_toArray, List.set_cons_zero, List.set_cons_succ, List.getD_cons_zero, List.getD_cons_succ, Is] at hK ⊢
          rw [h1] at hK ⊢
          clear h1
          refine ite_yes (by rfl) ?_
          go_simp
          exact hK _ _ _ rfl (Grew.refl _) rfl
        · intro y w2 hG hD K hK
          simp only [depsH, List.getD_cons_zero, List.getD_cons_succ, Is, and_true] at hD
          have h2 := hD
          clear hD
          simp only [fillL, Act.put, List.setIfInBounds_toArray, List.set_cons_zero, List.set_cons_succ, List.getD_cons_zero, List.getD_cons_succ, Is] at hK ⊢
          rw [h2] at hK ⊢
          clear h2
          refine ite_yes (by rfl) ?_
          go_simp
          exact hK _ _ _ rfl (Grew.refl _) rfl
        · intro y w2 hG hD K hK
          simp only [depsH, List.getD_cons_zero, List.getD_cons_succ, Is, and_true] at hD
          have h2 := hD.1
          have h3 := hD.2
          clear hD
          simp only [fillL, Act.put, List.setIfInBounds_toArray, List.set_cons_zero, List.set_cons_succ, List.getD_cons_zero, List.getD_cons_succ, Is] at hK ⊢
          rw [h2, h3] at hK ⊢
          clear h2 h3
          refine ite_yes (by rfl) ?_
          go_simp
          exact hK _ _ _ rfl (Grew.refl _) rfl
        · intro y w2 hG hD K hK
          simp only [depsH, List.getD_cons_zero, List.getD_cons_succ, Is, and_true] at hD
          have h2 := hD.1
          have h4 := hD.2
          clear hD
          simp only [fillL, Act.put, List.setIfInBounds_toArray, List.set_cons_zero, List.set_cons_succ, List.getD_cons_zero, List.getD_cons_succ, Is] at hK ⊢
          rw [h2, h4] at hK ⊢
          clear h2 h4
          refine ite_yes (by rfl) ?_
          go_simp
          exact hK _ _ _ rfl (Grew.refl _) rfl
        · intro y w2 hG hD K hK
          simp only [depsH, List.getD_cons_zero, List.getD_cons_succ, Is, and_true] at hD
          have h5 := hD
          clear hD
          simp only [fillL, Act.put, List.setIfInBounds_toArray, List.set_cons_zero, List.set_cons_succ, List.getD_cons_zero, List.getD_cons_succ, Is] at hK ⊢
          rw [h5] at hK ⊢
          clear h5
          refine ite_yes (by rfl) ?_
          go_simp
          exact hK _ _ _ rfl (Grew.refl _) rfl
        · intro y w2 hG hD K hK
          simp only [depsH, List.getD_cons_zero, List.getD_cons_succ, Is, and_true] at hD
          have h6 := hD
          clear hD
          simp only [fillL, Act.put, List.setIfInBounds_toArray, List.set_cons_zero, List.set_cons_succ, List.getD_cons_zero, List.getD_cons_succ, Is] at hK ⊢
          rw [h6] at hK ⊢
          clear h6
          refine ite_yes (by rfl) ?_
          go_simp
          exact hK _ _ _ rfl (Grew.refl _) rfl
        · intro y w2 hG hD K hK
          simp only [depsH, List.getD_cons_zero, List.getD_cons_succ, Is, and_true] at hD
          have h6 := hD
          clear hD
          simp only [fillL, Act.put, List.setIfInBounds_toArray, List.set_cons_zero, List.set_cons_succ, List.getD_cons_zero, List.getD_cons_succ, Is] at hK ⊢
          rw [h6] at hK ⊢
          clear h6
          refine ite_yes (by rfl) ?_
          go_simp
          exact hK _ _ _ rfl (Grew.refl _) rfl
        · intro y w2 hG hD K hK
          simp only [depsH, List.getD_cons_zero, List.getD_cons_succ, Is, and_true] at hD
          have h6 := hD.1
          have h7 := hD.2.1
          have h8 := hD.2.2
          clear hD
          simp only [fillL, Act.put, List.setIfInBounds_toArray, List.set_cons_zero, List.set_cons_succ, List.getD_cons_zero, List.getD_cons_succ, Is] at hK ⊢
          rw [h6, h7, h8] at hK ⊢
          clear h6 h7 h8
          refine ite_yes (by rfl) ?_
          go_simp
          exact hK _ _ _ rfl (Grew.refl _) rfl
        · intro y w2 hG hD K hK
          simp only [depsH, List.getD_cons_zero, List.getD_cons_succ, Is, and_true] at hD
          have h6 := hD
          clear hD
          simp only [fillL, Act.put, List.setIfInBounds_toArray, List.set_cons_zero, List.set_cons_succ, List.getD_cons_zero, List.getD_cons_succ, Is] at hK ⊢
          rw [h6] at hK ⊢
          clear h6
          refine ite_yes (by rfl) ?_
          go_simp
          exact hK _ _ _ rfl (Grew.refl _) rfl
        · intro y w2 hG hD K hK
          simp only [depsH, List.getD_cons_zero, List.getD_cons_succ, Is, and_true] at hD
          have h6 := hD
          clear hD
          simp only [fillL, Act.put, List.setIfInBounds_toArray, List.set_cons_zero, List.set_cons_succ, List.getD_cons_zero, List.getD_cons_succ, Is] at hK ⊢
          rw [h6] at hK ⊢
          clear h6
          refine ite_yes (by rfl) ?_
          go_simp
          exact hK _ _ _ rfl (Grew.refl _) rfl
        · intro y w2 hG hD K hK
          simp only [depsH, List.getD_cons_zero, List.getD_cons_succ, Is, and_true] at hD
          have h6 := hD.1
          have h10 := hD.2.1
          have h11 := hD.2.2
          clear hD
          simp only [fillL, Act.put, List.setIfInBounds_toArray, List.set_cons_zero, List.set_cons_succ, List.getD_cons_zero, List.getD_cons_succ, Is] at hK ⊢
          rw [h6, h10, h11] at hK ⊢
          clear h6 h10 h11
          refine ite_yes (by rfl) ?_
          go_simp
          exact hK _ _ _ rfl (Grew.refl _) rfl
        · intro y w2 hG hD K hK
          simp only [depsH, List.getD_cons_zero, List.getD_cons_succ, Is, and_true] at hD
          have h6 := hD.1
          have h9 := hD.2.1
          have h12 := hD.2.2
          clear hD
          simp only [fillL, Act.put, List.setIfInBounds_toArray, List.set_cons_zero, List.set_cons_succ, List.getD_cons_zero, List.getD_cons_succ, Is] at hK ⊢
          rw [h6, h9, h12] at hK ⊢
          clear h6 h9 h12
          refine ite_yes (by rfl) ?_
          go_simp
          refine (eqBytes_any _ _ _ _ (HE1.out.grew hG) (HE2.out.grew hG)).mono ?_
          rw [decide_eq_true HEQ.out]
          rintro r w3 ⟨rfl, rfl⟩
          exact hK _ _ _ rfl (Grew.refl _) rfl
        · intro y w2 hG hD K hK
          simp only [depsH, List.getD_cons_zero, List.getD_cons_succ, Is, and_true] at hD
          have h6 := hD.1
          have h13 := hD.2
          clear hD
          simp only [fillL, Act.put, List.setIfInBounds_toArray, List.set_cons_zero, List.set_cons_succ, List.getD_cons_zero, List.getD_cons_succ, Is] at hK ⊢
          rw [h6, h13] at hK ⊢
          clear h6 h13
          refine ite_yes (by rfl) ?_
          go_simp
          exact hK _ _ _ rfl (Grew.refl _) rfl
        · intro y w2 hG hD K hK
          simp only [depsH, List.getD_cons_zero, List.getD_cons_succ, Is, and_true] at hD
          have h6 := hD.1
          have h14 := hD.2
          clear hD
          simp only [fillL, Act.put, List.setIfInBounds_toArray, List.set_cons_zero, List.set_cons_succ, List.getD_cons_zero, List.getD_cons_succ, Is] at hK ⊢
          rw [h6, h14] at hK ⊢
          clear h6 h14
          refine ite_yes (by rfl) ?_
          go_simp
          exact hK _ _ _ rfl (Grew.refl _) rfl
        · intro y w2 hG hD K hK
          simp only [depsH, List.getD_cons_zero, List.getD_cons_succ, Is, and_true] at hD
          have h15 := hD
          clear hD
          simp only [fillL, Act.put, List.setIfInBounds_toArray, List.set_cons_zero, List.set_cons_succ, List.getD_cons_zero, List.getD_cons_succ, Is] at hK ⊢
          rw [h15] at hK ⊢
          clear h15
          refine ite_yes (by rfl) ?_
          go_simp
          exact hK _ _ _ rfl (Grew.refl _) rfl
        · intro y w2 hG hD K hK
          simp only [depsH, List.getD_cons_zero, List.getD_cons_succ, Is, and_true] at hD
          have h16 := hD
          clear hD
          simp only [fillL, Act.put, List.setIfInBounds_toArray, List.set_cons_zero, List.set_cons_succ, List.getD_cons_zero, List.getD_cons_succ, Is] at hK ⊢
          rw [h16] at hK ⊢
          clear h16
          refine ite_yes (by rfl) ?_
          go_simp
          exact hK _ _ _ rfl (Grew.refl _) rfl
        · intro y w2 hG hD K hK
          simp only [depsH, List.getD_cons_zero, List.getD_cons_succ, Is, and_true] at hD
          have h16 := hD.1
          have h17 := hD.2
          clear hD
          simp only [fillL, Act.put, List.setIfInBounds_toArray, List.set_cons_zero, List.set_cons_succ, List.getD_cons_zero, List.getD_cons_succ, Is] at hK ⊢
          rw [h16, h17] at hK ⊢
          clear h16 h17
          refine ite_yes (by rfl) ?_
          go_simp
          exact hK _ _ _ rfl (Grew.refl _) rfl
        · intro y w2 hG hD K hK
          simp only [depsH, List.getD_cons_zero, List.getD_cons_succ, Is, and_true] at hD
          have h16 := hD
          clear hD
          simp only [fillL, Act.put, List.setIfInBounds_toArray, List.set_cons_zero, List.set_cons_succ, List.getD_cons_zero, List.getD_cons_succ, Is] at hK ⊢
          rw [h16] at hK ⊢
          clear h16
          refine ite_yes (by rfl) ?_
          go_simp
          exact hK _ _ _ rfl (Grew.refl _) rfl
        · intro y w2 hG hD K hK
          simp only [depsH, List.getD_cons_zero, List.getD_cons_succ, Is, and_true] at hD
          have h16 := hD.1
          have h19 := hD.2
          clear hD
          simp only [fillL, Act.put, List.setIfInBounds_toArray, List.set_cons_zero, List.set_cons_succ, List.getD_cons_zero, List.getD_cons_succ, Is] at hK ⊢
          rw [h16, h19] at hK ⊢
          clear h16 h19
          refine ite_yes (by rfl) ?_
          go_simp
          exact hK _ _ _ rfl (Grew.refl _) rfl
        · intro y w2 hG hD K hK
          simp only [depsH, List.getD_cons_zero, List.getD_cons_succ, Is, and_true] at hD
          have h16 := hD.1
          have h18 := hD.2.1
          have h20 := hD.2.2
          clear hD
          simp only [fillL, Act.put, List.setIfInBounds_toArray, List.set_cons_zero, List.set_cons_succ, List.getD_cons_zero, List.getD_cons_succ, Is] at hK ⊢
          rw [h16, h18, h20] at hK ⊢
          clear h16 h18 h20
          refine ite_yes (by rfl) ?_
          go_simp
          exact hK _ _ _ rfl (Grew.refl _) (by first | rfl | (simp; omega))
        · intro y w2 hG hD K hK
          simp only [depsH, List.getD_cons_zero, List.getD_cons_succ, Is, and_true] at hD
          have h16 := hD.1
          have h21 := hD.2
          clear hD
          simp only [fillL, Act.put, List.setIfInBounds_toArray, List.set_cons_zero, List.set_cons_succ, List.getD_cons_zero, List.getD_cons_succ, Is] at hK ⊢
          rw [h16, h21] at hK ⊢
          clear h16 h21
          refine ite_yes (by rfl) ?_
          go_simp
          exact hK _ _ _ rfl (Grew.refl _) rfl
        · intro y w2 hG hD K hK
          simp only [depsH, List.getD_cons_zero, List.getD_cons_succ, Is, and_true] at hD
          have h22 := hD
          clear hD
          simp only [fillL, Act.put, List.setIfInBounds_toArray, List.set_cons_zero, List.set_cons_succ, List.getD_cons_zero, List.getD_cons_succ, Is] at hK ⊢
          rw [h22] at hK ⊢
          clear h22
          refine ite_no (by rfl) ?_
          exact hK _ _ _ rfl (Grew.refl _) rfl
        · intro y w2 hG hD K hK
          simp only [depsH, List.getD_cons_zero, List.getD_cons_succ, Is, and_true] at hD
          have h22 := hD
          clear hD
          simp only [fillL, Act.put, List.setIfInBounds_toArray, List.set_cons_zero, List.set_cons_succ, List.getD_cons_zero, List.getD_cons_succ, Is] at hK ⊢
          rw [h22] at hK ⊢
          clear h22
          refine ite_no (by rfl) ?_
          exact hK _ _ _ rfl (Grew.refl _) rfl
        · intro y w2 hG hD K hK
          simp only [depsH, List.getD_cons_zero, List.getD_cons_succ, Is, and_true] at hD
          have h22 := hD.1
          have h23 := hD.2.1
          have h24 := hD.2.2
          clear hD
          simp only [fillL, Act.put, List.setIfInBounds_toArray, List.set_cons_zero, List.set_cons_succ, List.getD_cons_zero, List.getD_cons_succ, Is] at hK ⊢
          rw [h22, h23, h24] at hK ⊢
          clear h22 h23 h24
          refine ite_no (by rfl) ?_
          exact hK _ _ _ rfl (Grew.refl _) rfl
        · intro y w2 hG hD K hK
          simp only [depsH, List.getD_cons_zero, List.getD_cons_succ, Is, and_true] at hD
          have h22 := hD.1
          have h25 := hD.2
          clear hD
          simp only [fillL, Act.put, List.setIfInBounds_toArray, List.set_cons_zero, List.set_cons_succ, List.getD_cons_zero, List.getD_cons_succ, Is] at hK ⊢
          rw [h22, h25] at hK ⊢
          clear h22 h25
          refine ite_no (by rfl) ?_
          exact hK _ _ _ rfl (Grew.refl _) rfl
        · intro y w2 hG hD K hK
          simp only [depsH, List.getD_cons_zero, List.getD_cons_succ, Is, and_true] at hD
          have h22 := hD.1
          have h26 := hD.2
          clear hD
          simp only [fillL, Act.put, List.setIfInBounds_toArray, List.set_cons_zero, List.set_cons_succ, List.getD_cons_zero, List.getD_cons_succ, Is] at hK ⊢
          rw [h22, h26] at hK ⊢
          clear h22 h26
          refine ite_no (by rfl) ?_
          exact hK _ _ _ rfl (Grew.refl _) rfl
        · intro y w2 hG hD K hK
          simp only [depsH, List.getD_cons_zero, List.getD_cons_succ, Is, and_true] at hD
          have h22 := hD.1
          have h27 := hD.2
          clear hD
          simp only [fillL, Act.put, List.setIfInBounds_toArray, List.set_cons_zero, List.set_cons_succ, List.getD_cons_zero, List.getD_cons_succ, Is] at hK ⊢
          rw [h22, h27] at hK ⊢
          clear h22 h27
          refine ite_no (by rfl) ?_
          exact hK _ _ _ rfl (Grew.refl _) rfl
        · intro y w2 hG hD K hK
          simp only [depsH, List.getD_cons_zero, List.getD_cons_succ, Is, and_true] at hD
          have h22 := hD.1
          have h28 := hD.2
          clear hD
          simp only [fillL, Act.put, List.setIfInBounds_toArray, List.set_cons_zero, List.set_cons_succ, List.getD_cons_zero, List.getD_cons_succ, Is] at hK ⊢
          rw [h22, h28] at hK ⊢
          clear h22 h28
          refine ite_no (by rfl) ?_
          exact hK _ _ _ rfl (Grew.refl _) rfl
        · intro y w2 hG hD K hK
          simp only [depsH, List.getD_cons_zero, List.getD_cons_succ, Is, and_true] at hD
          have h16 := hD.1
          have h22 := hD.2.1
          have h29 := hD.2.2
          clear hD
          simp only [fillL, Act.put, List.setIfInBounds_toArray, List.set_cons_zero, List.set_cons_succ, List.getD_cons_zero, List.getD_cons_succ, Is] at hK ⊢
          rw [h16, h22, h29] at hK ⊢
          clear h16 h22 h29
          refine ite_yes (by rfl) ?_
          go_simp
          exact hK _ _ _ rfl (Grew.refl _) rfl
        · intro y w2 hG hD K hK
          simp only [depsH, List.getD_cons_zero, List.getD_cons_succ, Is, and_true] at hD
          have h16 := hD.1
          have h30 := hD.2
          clear hD
          simp only [fillL, Act.put, List.setIfInBounds_toArray, List.set_cons_zero, List.set_cons_succ, List.getD_cons_zero, List.getD_cons_succ, Is] at hK ⊢
          rw [h16, h30] at hK ⊢
          clear h16 h30
          refine ite_yes (by rfl) ?_
          go_simp
          exact hK _ _ _ rfl (Grew.refl _) rfl
        · intro y w2 hG hD K hK
          simp only [depsH, List.getD_cons_zero, List.getD_cons_succ, Is, and_true] at hD
          have h31 := hD
          clear hD
          simp only [fillL, Act.put, List.setIfInBounds_toArray, List.set_cons_zero, List.set_cons_succ, List.getD_cons_zero, List.getD_cons_succ, Is] at hK ⊢
          rw [h31] at hK ⊢
          clear h31
          refine ite_yes (by rfl) ?_
          go_simp
          exact hK _ _ _ rfl (Grew.refl _) rfl
        · intro y w2 hG hD K hK
          simp only [depsH, List.getD_cons_zero, List.getD_cons_succ, Is, and_true] at hD
          have h32 := hD
          clear hD
          simp only [fillL, Act.put, List.setIfInBounds_toArray, List.set_cons_zero, List.set_cons_succ, List.getD_cons_zero, List.getD_cons_succ, Is] at hK ⊢
          rw [h32] at hK ⊢
          clear h32
          refine ite_yes (by rfl) ?_
          go_simp
          exact hK _ _ _ rfl (Grew.refl _) rfl
        · intro y w2 hG hD K hK
          simp only [depsH, List.getD_cons_zero, List.getD_cons_succ, Is, and_true] at hD
          have h32 := hD.1
          have h33 := hD.2
          clear hD
          simp only [fillL, Act.put, List.setIfInBounds_toArray, List.set_cons_zero, List.set_cons_succ, List.getD_cons_zero, List.getD_cons_succ, Is] at hK ⊢
          rw [h32, h33] at hK ⊢
          clear h32 h33
          refine ite_yes (by rfl) ?_
          go_simp
          refine (lenL (HL.out.grew hG)).mono ?_
          rintro r w3 ⟨rfl, rfl⟩
          exact hK _ _ _ rfl (Grew.refl _) rfl
        · intro y w2 hG hD K hK
          simp only [depsH, List.getD_cons_zero, List.getD_cons_succ, Is, and_true] at hD
          have h32 := hD
          clear hD
          simp only [fillL, Act.put, List.setIfInBounds_toArray, List.set_cons_zero, List.set_cons_succ, List.getD_cons_zero, List.getD_cons_succ, Is] at hK ⊢
          rw [h32] at hK ⊢
          clear h32
          refine ite_yes (by rfl) ?_
          go_simp
          exact hK _ _ _ rfl (Grew.refl _) rfl
        · intro y w2 hG hD K hK
          simp only [depsH, List.getD_cons_zero, List.getD_cons_succ, Is, and_true] at hD
          have h32 := hD.1
          have h35 := hD.2
          clear hD
          simp only [fillL, Act.put, List.setIfInBounds_toArray, List.set_cons_zero, List.set_cons_succ, List.getD_cons_zero, List.getD_cons_succ, Is] at hK ⊢
          rw [h32, h35] at hK ⊢
          clear h32 h35
          refine ite_yes (by rfl) ?_
          go_simp
          exact hK _ _ _ rfl (Grew.refl _) rfl
        · intro y w2 hG hD K hK
          simp only [depsH, List.getD_cons_zero, List.getD_cons_succ, Is, and_true] at hD
          have h32 := hD.1
          have h34 := hD.2.1
          have h36 := hD.2.2
          clear hD
          simp only [fillL, Act.put, List.setIfInBounds_toArray, List.set_cons_zero, List.set_cons_succ, List.getD_cons_zero, List.getD_cons_succ, Is] at hK ⊢
          rw [h32, h34, h36] at hK ⊢
          clear h32 h34 h36
          refine ite_yes (by rfl) ?_
          go_simp
          exact hK _ _ _ rfl (Grew.refl _) (by simp)
        · intro y w2 hG hD K hK
          simp only [depsH, List.getD_cons_zero, List.getD_cons_succ, Is, and_true] at hD
          have h32 := hD.1
          have h37 := hD.2
          clear hD
          simp only [fillL, Act.put, List.setIfInBounds_toArray, List.set_cons_zero, List.set_cons_succ, List.getD_cons_zero, List.getD_cons_succ, Is] at hK ⊢
          rw [h32, h37] at hK ⊢
          clear h32 h37
          refine ite_yes (by rfl) ?_
          go_simp
          exact hK _ _ _ rfl (Grew.refl _) rfl
        · intro y w2 hG hF
          simp only [factsH, Is, and_true, Nat.reduceAdd] at hF
          have h0 := hF.1
          have h1 := hF.2.1
          have h2 := hF.2.2.1
          have h3 := hF.2.2.2.1
          have h4 := hF.2.2.2.2.1
          have h5 := hF.2.2.2.2.2.1
          have h6 := hF.2.2.2.2.2.2.1
          have h7 := hF.2.2.2.2.2.2.2.1
          have h8 := hF.2.2.2.2.2.2.2.2.1
          have h9 := hF.2.2.2.2.2.2.2.2.2.1
          have h10 := hF.2.2.2.2.2.2.2.2.2.2.1
          have h11 := hF.2.2.2.2.2.2.2.2.2.2.2.1
          have h12 := hF.2.2.2.2.2.2.2.2.2.2.2.2.1
          have h13 := hF.2.2.2.2.2.2.2.2.2.2.2.2.2.1
          have h14 := hF.2.2.2.2.2.2.2.2.2.2.2.2.2.2.1
          have h15 := hF.2.2.2.2.2.2.2.2.2.2.2.2.2.2.2.1
          have h16 := hF.2.2.2.2.2.2.2.2.2.2.2.2.2.2.2.2.1
          have h17 := hF.2.2.2.2.2.2.2.2.2.2.2.2.2.2.2.2.2.1
          have h18 := hF.2.2.2.2.2.2.2.2.2.2.2.2.2.2.2.2.2.2.1
          have h19 := hF.2.2.2.2.2.2.2.2.2.2.2.2.2.2.2.2.2.2.2.1
          have h20 := hF.2.2.2.2.2.2.2.2.2.2.2.2.2.2.2.2.2.2.2.2.1
          have h21 := hF.2.2.2.2.2.2.2.2.2.2.2.2.2.2.2.2.2.2.2.2.2.1
          have h22 := hF.2.2.2.2.2.2.2.2.2.2.2.2.2.2.2.2.2.2.2.2.2.2.1
          have h23 := hF.2.2.2.2.2.2.2.2.2.2.2.2.2.2.2.2.2.2.2.2.2.2.2.1
          have h24 := hF.2.2.2.2.2.2.2.2.2.2.2.2.2.2.2.2.2.2.2.2.2.2.2.2.1
          have h25 := hF.2.2.2.2.2.2.2.2.2.2.2.2.2.2.2.2.2.2.2.2.2.2.2.2.2.1
          have h26 := hF.2.2.2.2.2.2.2.2.2.2.2.2.2.2.2.2.2.2.2.2.2.2.2.2.2.2.1
          have h27 := hF.2.2.2.2.2.2.2.2.2.2.2.2.2.2.2.2.2.2.2.2.2.2.2.2.2.2.2.1
          have h28 := hF.2.2.2.2.2.2.2.2.2.2.2.2.2.2.2.2.2.2.2.2.2.2.2.2.2.2.2.2.1
          have h29 := hF.2.2.2.2.2.2.2.2.2.2.2.2.2.2.2.2.2.2.2.2.2.2.2.2.2.2.2.2.2.1
          have h30 := hF.2.2.2.2.2.2.2.2.2.2.2.2.2.2.2.2.2.2.2.2.2.2.2.2.2.2.2.2.2.2.1
          have h31 := hF.2.2.2.2.2.2.2.2.2.2.2.2.2.2.2.2.2.2.2.2.2.2.2.2.2.2.2.2.2.2.2.1
          have h32 := hF.2.2.2.2.2.2.2.2.2.2.2.2.2.2.2.2.2.2.2.2.2.2.2.2.2.2.2.2.2.2.2.2.1
          have h33 := hF.2.2.2.2.2.2.2.2.2.2.2.2.2.2.2.2.2.2.2.2.2.2.2.2.2.2.2.2.2.2.2.2.2.1
          have h34 := hF.2.2.2.2.2.2.2.2.2.2.2.2.2.2.2.2.2.2.2.2.2.2.2.2.2.2.2.2.2.2.2.2.2.2.1
          have h35 := hF.2.2.2.2.2.2.2.2.2.2.2.2.2.2.2.2.2.2.2.2.2.2.2.2.2.2.2.2.2.2.2.2.2.2.2.1
          have h36 := hF.2.2.2.2.2.2.2.2.2.2.2.2.2.2.2.2.2.2.2.2.2.2.2.2.2.2.2.2.2.2.2.2.2.2.2.2.1
          have h37 := hF.2.2.2.2.2.2.2.2.2.2.2.2.2.2.2.2.2.2.2.2.2.2.2.2.2.2.2.2.2.2.2.2.2.2.2.2.2.1
          have h38 := hF.2.2.2.2.2.2.2.2.2.2.2.2.2.2.2.2.2.2.2.2.2.2.2.2.2.2.2.2.2.2.2.2.2.2.2.2.2.2
          clear hF
          simp only [fillL, Act.put, List.setIfInBounds_toArray, List.set_cons_zero, List.set_cons_succ, List.getD_cons_zero, List.getD_cons_succ, Is]
          rw [h0, h1, h2, h3, h4, h5, h6, h7, h8, h9, h10, h11, h12, h13, h14, h15, h16, h17, h18, h19, h20, h21, h22, h23, h24, h25, h26, h27, h28, h29, h30, h31, h32, h33, h34, h35, h36, h37, h38]
          clear h0 h1 h2 h3 h4 h5 h6 h7 h8 h9 h10 h11 h12 h13 h14 h15 h16 h17 h18 h19 h20 h21 h22 h23 h24 h25 h26 h27 h28 h29 h30 h31 h32 h33 h34 h35 h36 h37 h38
          have HF := Lib.hid (HL.out.grew hG)
          clear hG d0
          go_wp2_with fail
          go_roundw
          case rel => exact ⟨k + 1, by omega, by omega, by go_num, s2, HF.out, HB2.out.1, HB2.out.2⟩
          case measure => simp [intOf]; omega
      · have HE1 := Lib.hid (HV12.out.first s2.1.length (by omega))
        have HE2 := Lib.hid (HV2.out.first s2.1.length (Nat.le_refl _))
        have HEQ : Hid (s.1.take s2.1.length = s2.1.take s2.1.length) := by show _ = _; rw [hce, List.take_length]
        have H3 := Lib.hid hc3
        have hL1 : s2.1.length ≤ c1 := by omega
        clear hce HCASE hc3
        go_wp2_with fail
        refine wp_region_tables Grew [[], [0], [1], [2], [2, 3], [2, 4], [5], [6], [6], [6, 7, 8], [6], [6], [6, 10, 11], [6, 9, 12], [6, 13], [6, 14], [15], [16], [16, 17], [16], [16, 19], [16, 18, 20], [16, 21], [22], [22], [22, 23, 24], [22, 25], [22, 26], [22, 27], [22, 28], [16, 22, 29], [16, 30], [31], [32], [32, 33], [32], [32, 35], [32, 34, 36], [32, 37]] [[(46, 2), (47, 3), (48, 4), (49, 5), (50, 6), (51, 7), (52, 8), (53, 9), (54, 10), (55, 11), (56, 12), (57, 13), (58, 14), (59, 15), (60, 16), (61, 17), (62, 18), (63, 19), (64, 20), (65, 21), (66, 22), (67, 23), (68, 24), (69, 25), (70, 26), (71, 27), (72, 28), (73, 29), (74, 30), (75, 31), (76, 32), (77, 33), (78, 34), (79, 35), (80, 36), (81, 37), (82, 38)], [(44, 0), (47, 3), (48, 4), (49, 5), (50, 6), (51, 7), (52, 8), (53, 9), (54, 10), (55, 11), (56, 12), (57, 13), (58, 14), (59, 15), (60, 16), (61, 17), (62, 18), (63, 19), (64, 20), (65, 21), (66, 22), (67, 23), (68, 24), (69, 25), (70, 26), (71, 27), (72, 28), (73, 29), (74, 30), (75, 31), (76, 32), (77, 33), (78, 34), (79, 35), (80, 36), (81, 37), (82, 38)], [(44, 0), (45, 1), (50, 6), (51, 7), (52, 8), (53, 9), (54, 10), (55, 11), (56, 12), (57, 13), (58, 14), (59, 15), (60, 16), (61, 17), (62, 18), (63, 19), (64, 20), (65, 21), (66, 22), (67, 23), (68, 24), (69, 25), (70, 26), (71, 27), (72, 28), (73, 29), (74, 30), (75, 31), (76, 32), (77, 33), (78, 34), (79, 35), (80, 36), (81, 37), (82, 38)], [(44, 0), (45, 1), (46, 2), (49, 5), (50, 6), (51, 7), (52, 8), (53, 9), (54, 10), (55, 11), (56, 12), (57, 13), (58, 14), (59, 15), (60, 16), (61, 17), (62, 18), (63, 19), (64, 20), (65, 21), (66, 22), (67, 23), (68, 24), (69, 25), (70, 26), (71, 27), (72, 28), (73, 29), (74, 30), (75, 31), (76, 32), (77, 33), (78, 34), (79, 35), (80, 36), (81, 37), (82, 38)], [(44, 0), (45, 1), (46, 2), (47, 3), (50, 6), (51, 7), (52, 8), (53, 9), (54, 10), (55, 11), (56, 12), (57, 13), (58, 14), (59, 15), (60, 16), (61, 17), (62, 18), (63, 19), (64, 20), (65, 21), (66, 22), (67, 23), (68, 24), (69, 25), (70, 26), (71, 27), (72, 28), (73, 29), (74, 30), (75, 31), (76, 32), (77, 33), (78, 34), (79, 35), (80, 36), (81, 37), (82, 38)], [(44, 0), (45, 1), (46, 2), (47, 3), (48, 4), (51, 7), (52, 8), (53, 9), (54, 10), (55, 11), (56, 12), (57, 13), (58, 14), (59, 15), (60, 16), (61, 17), (62, 18), (63, 19), (64, 20), (65, 21), (66, 22), (67, 23), (68, 24), (69, 25), (70, 26), (71, 27), (72, 28), (73, 29), (74, 30), (75, 31), (76, 32), (77, 33), (78, 34), (79, 35), (80, 36), (81, 37), (82, 38)], [(44, 0), (45, 1), (46, 2), (47, 3), (48, 4), (49, 5), (60, 16), (61, 17), (62, 18), (63, 19), (64, 20), (65, 21), (66, 22), (67, 23), (68, 24), (69, 25), (70, 26), (71, 27), (72, 28), (73, 29), (74, 30), (75, 31), (76, 32), (77, 33), (78, 34), (79, 35), (80, 36), (81, 37), (82, 38)], [(44, 0), (45, 1), (46, 2), (47, 3), (48, 4), (49, 5), (50, 6), (52, 8), (54, 10), (55, 11), (56, 12), (57, 13), (58, 14), (59, 15), (60, 16), (61, 17), (62, 18), (63, 19), (64, 20), (65, 21), (66, 22), (67, 23), (68, 24), (69, 25), (70, 26), (71, 27), (72, 28), (73, 29), (74, 30), (75, 31), (76, 32), (77, 33), (78, 34), (79, 35), (80, 36), (81, 37), (82, 38)], [(44, 0), (45, 1), (46, 2), (47, 3), (48, 4), (49, 5), (50, 6), (51, 7), (54, 10), (55, 11), (56, 12), (57, 13), (58, 14), (59, 15), (60, 16), (61, 17), (62, 18), (63, 19), (64, 20), (65, 21), (66, 22), (67, 23), (68, 24), (69, 25), (70, 26), (71, 27), (72, 28), (73, 29), (74, 30), (75, 31), (76, 32), (77, 33), (78, 34), (79, 35), (80, 36), (81, 37), (82, 38)], [(44, 0), (45, 1), (46, 2), (47, 3), (48, 4), (49, 5), (50, 6), (51, 7), (52, 8), (54, 10), (55, 11), (56, 12), (58, 14), (59, 15), (60, 16), (61, 17), (62, 18), (63, 19), (64, 20), (65, 21), (66, 22), (67, 23), (68, 24), (69, 25), (70, 26), (71, 27), (72, 28), (73, 29), (74, 30), (75, 31), (76, 32), (77, 33), (78, 34), (79, 35), (80, 36), (81, 37), (82, 38)], [(44, 0), (45, 1), (46, 2), (47, 3), (48, 4), (49, 5), (50, 6), (51, 7), (52, 8), (53, 9), (55, 11), (57, 13), (58, 14), (59, 15), (60, 16), (61, 17), (62, 18), (63, 19), (64, 20), (65, 21), (66, 22), (67, 23), (68, 24), (69, 25), (70, 26), (71, 27), (72, 28), (73, 29), (74, 30), (75, 31), (76, 32), (77, 33), (78, 34), (79, 35), (80, 36), (81, 37), (82, 38)], [(44, 0), (45, 1), (46, 2), (47, 3), (48, 4), (49, 5), (50, 6), (51, 7), (52, 8), (53, 9), (54, 10), (57, 13), (58, 14), (59, 15), (60, 16), (61, 17), (62, 18), (63, 19), (64, 20), (65, 21), (66, 22), (67, 23), (68, 24), (69, 25), (70, 26), (71, 27), (72, 28), (73, 29), (74, 30), (75, 31), (76, 32), (77, 33), (78, 34), (79, 35), (80, 36), (81, 37), (82, 38)], [(44, 0), (45, 1), (46, 2), (47, 3), (48, 4), (49, 5), (50, 6), (51, 7), (52, 8), (53, 9), (54, 10), (55, 11), (58, 14), (59, 15), (60, 16), (61, 17), (62, 18), (63, 19), (64, 20), (65, 21), (66, 22), (67, 23), (68, 24), (69, 25), (70, 26), (71, 27), (72, 28), (73, 29), (74, 30), (75, 31), (76, 32), (77, 33), (78, 34), (79, 35), (80, 36), (81, 37), (82, 38)], [(44, 0), (45, 1), (46, 2), (47, 3), (48, 4), (49, 5), (50, 6), (51, 7), (52, 8), (53, 9), (54, 10), (55, 11), (56, 12), (59, 15), (60, 16), (61, 17), (62, 18), (63, 19), (64, 20), (65, 21), (66, 22), (67, 23), (68, 24), (69, 25), (70, 26), (71, 27), (72, 28), (73, 29), (74, 30), (75, 31), (76, 32), (77, 33), (78, 34), (79, 35), (80, 36), (81, 37), (82, 38)], [(44, 0), (45, 1), (46, 2), (47, 3), (48, 4), (49, 5), (50, 6), (51, 7), (52, 8), (53, 9), (54, 10), (55, 11), (56, 12), (57, 13), (60, 16), (61, 17), (62, 18), (63, 19), (64, 20), (65, 21), (66, 22), (67, 23), (68, 24), (69, 25), (70, 26), (71, 27), (72, 28), (73, 29), (74, 30), (75, 31), (76, 32), (77, 33), (78, 34), (79, 35), (80, 36), (81, 37), (82, 38)], [(44, 0), (45, 1), (46, 2), (47, 3), (48, 4), (49, 5), (50, 6), (51, 7), (52, 8), (53, 9), (54, 10), (55, 11), (56, 12), (57, 13), (58, 14), (61, 17), (62, 18), (63, 19), (64, 20), (65, 21), (66, 22), (67, 23), (68, 24), (69, 25), (70, 26), (71, 27), (72, 28), (73, 29), (74, 30), (75, 31), (76, 32), (77, 33), (78, 34), (79, 35), (80, 36), (81, 37), (82, 38)], [(44, 0), (45, 1), (46, 2), (47, 3), (48, 4), (49, 5), (50, 6), (51, 7), (52, 8), (53, 9), (54, 10), (55, 11), (56, 12), (57, 13), (58, 14), (59, 15), (67, 23), (68, 24), (69, 25), (70, 26), (71, 27), (72, 28), (73, 29), (76, 32), (77, 33), (78, 34), (79, 35), (80, 36), (81, 37), (82, 38)], [(44, 0), (45, 1), (46, 2), (47, 3), (48, 4), (49, 5), (50, 6), (51, 7), (52, 8), (53, 9), (54, 10), (55, 11), (56, 12), (57, 13), (58, 14), (59, 15), (60, 16), (63, 19), (64, 20), (65, 21), (66, 22), (67, 23), (68, 24), (69, 25), (70, 26), (71, 27), (72, 28), (73, 29), (74, 30), (75, 31), (76, 32), (77, 33), (78, 34), (79, 35), (80, 36), (81, 37), (82, 38)], [(44, 0), (45, 1), (46, 2), (47, 3), (48, 4), (49, 5), (50, 6), (51, 7), (52, 8), (53, 9), (54, 10), (55, 11), (56, 12), (57, 13), (58, 14), (59, 15), (60, 16), (61, 17), (63, 19), (64, 20), (66, 22), (67, 23), (68, 24), (69, 25), (70, 26), (71, 27), (72, 28), (73, 29), (74, 30), (75, 31), (76, 32), (77, 33), (78, 34), (79, 35), (80, 36), (81, 37), (82, 38)], [(44, 0), (45, 1), (46, 2), (47, 3), (48, 4), (49, 5), (50, 6), (51, 7), (52, 8), (53, 9), (54, 10), (55, 11), (56, 12), (57, 13), (58, 14), (59, 15), (60, 16), (61, 17), (62, 18), (65, 21), (66, 22), (67, 23), (68, 24), (69, 25), (70, 26), (71, 27), (72, 28), (73, 29), (74, 30), (75, 31), (76, 32), (77, 33), (78, 34), (79, 35), (80, 36), (81, 37), (82, 38)], [(44, 0), (45, 1), (46, 2), (47, 3), (48, 4), (49, 5), (50, 6), (51, 7), (52, 8), (53, 9), (54, 10), (55, 11), (56, 12), (57, 13), (58, 14), (59, 15), (60, 16), (61, 17), (62, 18), (63, 19), (66, 22), (67, 23), (68, 24), (69, 25), (70, 26), (71, 27), (72, 28), (73, 29), (74, 30), (75, 31), (76, 32), (77, 33), (78, 34), (79, 35), (80, 36), (81, 37), (82, 38)], [(44, 0), (45, 1), (46, 2), (47, 3), (48, 4), (49, 5), (50, 6), (51, 7), (52, 8), (53, 9), (54, 10), (55, 11), (56, 12), (57, 13), (58, 14), (59, 15), (60, 16), (61, 17), (62, 18), (63, 19), (64, 20), (67, 23), (68, 24), (69, 25), (70, 26), (71, 27), (72, 28), (73, 29), (74, 30), (75, 31), (76, 32), (77, 33), (78, 34), (79, 35), (80, 36), (81, 37), (82, 38)], [(44, 0), (45, 1), (46, 2), (47, 3), (48, 4), (49, 5), (50, 6), (51, 7), (52, 8), (53, 9), (54, 10), (55, 11), (56, 12), (57, 13), (58, 14), (59, 15), (60, 16), (61, 17), (62, 18), (63, 19), (64, 20), (65, 21), (75, 31), (76, 32), (77, 33), (78, 34), (79, 35), (80, 36), (81, 37), (82, 38)], [(44, 0), (45, 1), (46, 2), (47, 3), (48, 4), (49, 5), (50, 6), (51, 7), (52, 8), (53, 9), (54, 10), (55, 11), (56, 12), (57, 13), (58, 14), (59, 15), (60, 16), (61, 17), (62, 18), (63, 19), (64, 20), (65, 21), (66, 22), (68, 24), (70, 26), (71, 27), (72, 28), (73, 29), (74, 30), (75, 31), (76, 32), (77, 33), (78, 34), (79, 35), (80, 36), (81, 37), (82, 38)], [(44, 0), (45, 1), (46, 2), (47, 3), (48, 4), (49, 5), (50, 6), (51, 7), (52, 8), (53, 9), (54, 10), (55, 11), (56, 12), (57, 13), (58, 14), (59, 15), (60, 16), (61, 17), (62, 18), (63, 19), (64, 20), (65, 21), (66, 22), (67, 23), (70, 26), (71, 27), (72, 28), (73, 29), (74, 30), (75, 31), (76, 32), (77, 33), (78, 34), (79, 35), (80, 36), (81, 37), (82, 38)], [(44, 0), (45, 1), (46, 2), (47, 3), (48, 4), (49, 5), (50, 6), (51, 7), (52, 8), (53, 9), (54, 10), (55, 11), (56, 12), (57, 13), (58, 14), (59, 15), (60, 16), (61, 17), (62, 18), (63, 19), (64, 20), (65, 21), (66, 22), (67, 23), (68, 24), (71, 27), (72, 28), (73, 29), (74, 30), (75, 31), (76, 32), (77, 33), (78, 34), (79, 35), (80, 36), (81, 37), (82, 38)], [(44, 0), (45, 1), (46, 2), (47, 3), (48, 4), (49, 5), (50, 6), (51, 7), (52, 8), (53, 9), (54, 10), (55, 11), (56, 12), (57, 13), (58, 14), (59, 15), (60, 16), (61, 17), (62, 18), (63, 19), (64, 20), (65, 21), (66, 22), (67, 23), (68, 24), (69, 25), (72, 28), (73, 29), (74, 30), (75, 31), (76, 32), (77, 33), (78, 34), (79, 35), (80, 36), (81, 37), (82, 38)], [(44, 0), (45, 1), (46, 2), (47, 3), (48, 4), (49, 5), (50, 6), (51, 7), (52, 8), (53, 9), (54, 10), (55, 11), (56, 12), (57, 13), (58, 14), (59, 15), (60, 16), (61, 17), (62, 18), (63, 19), (64, 20), (65, 21), (66, 22), (67, 23), (68, 24), (69, 25), (70, 26), (73, 29), (74, 30), (75, 31), (76, 32), (77, 33), (78, 34), (79, 35), (80, 36), (81, 37), (82, 38)], [(44, 0), (45, 1), (46, 2), (47, 3), (48, 4), (49, 5), (50, 6), (51, 7), (52, 8), (53, 9), (54, 10), (55, 11), (56, 12), (57, 13), (58, 14), (59, 15), (60, 16), (61, 17), (62, 18), (63, 19), (64, 20), (65, 21), (66, 22), (67, 23), (68, 24), (69, 25), (70, 26), (71, 27), (74, 30), (75, 31), (76, 32), (77, 33), (78, 34), (79, 35), (80, 36), (81, 37), (82, 38)], [(44, 0), (45, 1), (46, 2), (47, 3), (48, 4), (49, 5), (50, 6), (51, 7), (52, 8), (53, 9), (54, 10), (55, 11), (56, 12), (57, 13), (58, 14), (59, 15), (60, 16), (61, 17), (62, 18), (63, 19), (64, 20), (65, 21), (66, 22), (67, 23), (68, 24), (69, 25), (70, 26), (71, 27), (72, 28), (75, 31), (76, 32), (77, 33), (78, 34), (79, 35), (80, 36), (81, 37), (82, 38)], [(44, 0), (45, 1), (46, 2), (47, 3), (48, 4), (49, 5), (50, 6), (51, 7), (52, 8), (53, 9), (54, 10), (55, 11), (56, 12), (57, 13), (58, 14), (59, 15), (60, 16), (61, 17), (62, 18), (63, 19), (64, 20), (65, 21), (66, 22), (67, 23), (68, 24), (69, 25), (70, 26), (71, 27), (72, 28), (73, 29), (76, 32), (77, 33), (78, 34), (79, 35), (80, 36), (81, 37), (82, 38)], [(44, 0), (45, 1), (46, 2), (47, 3), (48, 4), (49, 5), (50, 6), (51, 7), (52, 8), (53, 9), (54, 10), (55, 11), (56, 12), (57, 13), (58, 14), (59, 15), (60, 16), (61, 17), (62, 18), (63, 19), (64, 20), (65, 21), (66, 22), (67, 23), (68, 24), (69, 25), (70, 26), (71, 27), (72, 28), (73, 29), (74, 30), (77, 33), (78, 34), (79, 35), (80, 36), (81, 37), (82, 38)], [(44, 0), (45, 1), (46, 2), (47, 3), (48, 4), (49, 5), (50, 6), (51, 7), (52, 8), (53, 9), (54, 10), (55, 11), (56, 12), (57, 13), (58, 14), (59, 15), (60, 16), (61, 17), (62, 18), (63, 19), (64, 20), (65, 21), (66, 22), (67, 23), (68, 24), (69, 25), (70, 26), (71, 27), (72, 28), (73, 29), (74, 30), (75, 31)], [(44, 0), (45, 1), (46, 2), (47, 3), (48, 4), (49, 5), (50, 6), (51, 7), (52, 8), (53, 9), (54, 10), (55, 11), (56, 12), (57, 13), (58, 14), (59, 15), (60, 16), (61, 17), (62, 18), (63, 19), (64, 20), (65, 21), (66, 22), (67, 23), (68, 24), (69, 25), (70, 26), (71, 27), (72, 28), (73, 29), (74, 30), (75, 31), (76, 32), (79, 35), (80, 36), (81, 37), (82, 38)], [(44, 0), (45, 1), (46, 2), (47, 3), (48, 4), (49, 5), (50, 6), (51, 7), (52, 8), (53, 9), (54, 10), (55, 11), (56, 12), (57, 13), (58, 14), (59, 15), (60, 16), (61, 17), (62, 18), (63, 19), (64, 20), (65, 21), (66, 22), (67, 23), (68, 24), (69, 25), (70, 26), (71, 27), (72, 28), (73, 29), (74, 30), (75, 31), (76, 32), (77, 33), (79, 35), (80, 36), (82, 38)], [(44, 0), (45, 1), (46, 2), (47, 3), (48, 4), (49, 5), (50, 6), (51, 7), (52, 8), (53, 9), (54, 10), (55, 11), (56, 12), (57, 13), (58, 14), (59, 15), (60, 16), (61, 17), (62, 18), (63, 19), (64, 20), (65, 21), (66, 22), (67, 23), (68, 24), (69, 25), (70, 26), (71, 27), (72, 28), (73, 29), (74, 30), (75, 31), (76, 32), (77, 33), (78, 34), (81, 37), (82, 38)], [(44, 0), (45, 1), (46, 2), (47, 3), (48, 4), (49, 5), (50, 6), (51, 7), (52, 8), (53, 9), (54, 10), (55, 11), (56, 12), (57, 13), (58, 14), (59, 15), (60, 16), (61, 17), (62, 18), (63, 19), (64, 20), (65, 21), (66, 22), (67, 23), (68, 24), (69, 25), (70, 26), (71, 27), (72, 28), (73, 29), (74, 30), (75, 31), (76, 32), (77, 33), (78, 34), (79, 35), (82, 38)], [(44, 0), (45, 1), (46, 2), (47, 3), (48, 4), (49, 5), (50, 6), (51, 7), (52, 8), (53, 9), (54, 10), (55, 11), (56, 12), (57, 13), (58, 14), (59, 15), (60, 16), (61, 17), (62, 18), (63, 19), (64, 20), (65, 21), (66, 22), (67, 23), (68, 24), (69, 25), (70, 26), (71, 27), (72, 28), (73, 29), (74, 30), (75, 31), (76, 32), (77, 33), (78, 34), (79, 35), (80, 36)], [(44, 0), (45, 1), (46, 2), (47, 3), (48, 4), (49, 5), (50, 6), (51, 7), (52, 8), (53, 9), (54, 10), (55, 11), (56, 12), (57, 13), (58, 14), (59, 15), (60, 16), (61, 17), (62, 18), (63, 19), (64, 20), (65, 21), (66, 22), (67, 23), (68, 24), (69, 25), (70, 26), (71, 27), (72, 28), (73, 29), (74, 30), (75, 31), (76, 32), (77, 33), (78, 34), (79, 35), (80, 36), (81, 37)]] [(44, 0), (45, 1), (46, 2), (47, 3), (48, 4), (49, 5), (50, 6), (51, 7), (52, 8), (53, 9), (54, 10), (55, 11), (56, 12), (57, 13), (58, 14), (59, 15), (60, 16), (61, 17), (62, 18), (63, 19), (64, 20), (65, 21), (66, 22), (67, 23), (68, 24), (69, 25), (70, 26), (71, 27), (72, 28), (73, 29), (74, 30), (75, 31), (76, 32), (77, 33), (78, 34), (79, 35), (80, 36), (81, 37), (82, 38)]
          [Is (.int .i64 0), Is (.bool false), Is (.bool false), Is (.int .i64 0), Is (.bool false), Is (.bool false), Is (.bool false), Is (.slice a1 s.1.length c1), Is (.int .i64 (s2.1.length : Int)), Is (.slice a1 s2.1.length c1), Is (.slice a2 s2.1.length c2), Is (.int .i64 (s2.1.length : Int)), Is (.slice a2 s2.1.length c2), Is (.bool true), Is (.bool false), Is (.bool false), Is (.bool false), Is (.slice a2 s2.1.length c2), Is (.int .i64 (s2.1.length : Int)), Is (.slice a1 s.1.length c1), Is (.int .i64 (s.1.length : Int)), Is (.bool true), Is (.bool true), Is (.slice (some ⟨b, off, none⟩) l.length cap), Is (.int .i64 k), Is (.pointer (some ⟨b, off + k * 5, none⟩)), Is (.pointer (some ⟨b, off + k * 5, none⟩)), Is (.int .i64 dd.kind), Is (.int .i64 3), Is (.bool false), Is (.bool false), Is (.bool false), Is (.bool false), Is (bptr p), Is (.int .i64 (s2.1.length : Int)), Is (.slice a2 s2.1.length c2), Is (.int .i64 (s2.1.length : Int)), Is (.bool false), Is (.bool false)]
          (by kernel_rfl) Grew.trans Grew.refl (Grew.refl _).drew (by kernel_rfl) ⟨is_st, is_st, is_st, is_st, is_st, is_st, is_st, is_st, is_st, is_st, is_st, is_st, is_st, is_st, is_st, is_st, is_st, is_st, is_st, is_st, is_st, is_st, is_st, is_st, is_st, is_st, is_st, is_st, is_st, is_st, is_st, is_st, is_st, is_st, is_st, is_st, is_st, is_st, is_st, trivial⟩ ⟨?_, ?_, ?_, ?_, ?_, ?_, ?_, ?_, ?_, ?_, ?_, ?_, ?_, ?_, ?_, ?_, ?_, ?_, ?_, ?_, ?_, ?_, ?_, ?_, ?_, ?_, ?_, ?_, ?_, ?_, ?_, ?_, ?_, ?_, ?_, ?_, ?_, ?_, ?_, trivial⟩ rfl ?_
        · intro y w2 hG hD K hK
          simp only [fillL, Act.put, List.setIfInBounds_toArray, List.set_cons_zero, List.set_cons_succ, List.getD_cons_zero, List.getD_cons_succ, Is] at hK ⊢
          refine ite_yes (by rfl) ?_
          go_simp
          exact hK _ _ _ rfl (Grew.refl _) rfl
        · intro y w2 hG hD K hK
          simp only [depsH, List.getD_cons_zero, List.getD_cons_succ, Is, and_true] at hD
          have h0 := hD
          clear hD
          simp only [fillL, Act.put, List.setIfInBounds_toArray, List.set_cons_zero, List.set_cons_succ, List.getD_cons_zero, List.getD_cons_succ, Is] at hK ⊢
          rw [h0] at hK ⊢
          clear h0
          refine ite_yes (by rfl) ?_
          go_simp
          exact hK _ _ _ rfl (Grew.refl _) rfl
        · intro y w2 hG hD K hK
          simp only [depsH, List.getD_cons_zero, List.getD_cons_succ, Is, and_true] at hD
          have h1 := hD
          clear hD
          simp only [fillL, Act.put, List.setIfInBounds_toArray, List.set_cons_zero, List.set_cons_succ, List.getD_cons_zero, List.getD_cons_succ, Is] at hK ⊢
          rw [h1] at hK ⊢
          clear h1
          refine ite_yes (by rfl) ?_
          go_simp
          exact hK _ _ _ rfl (Grew.refl _) rfl
        · intro y w2 hG hD K hK
          simp only [depsH, List.getD_cons_zero, List.getD_cons_succ, Is, and_true] at hD
          have h2 := hD
          clear hD
          simp only [fillL, Act.put, List.setIfInBounds_toArray, List.set_cons_zero, List.set_cons_succ, List.getD_cons_zero, List.getD_cons_succ, Is] at hK ⊢
          rw [h2] at hK ⊢
          clear h2
          refine ite_yes (by rfl) ?_
          go_simp
          exact hK _ _ _ rfl (Grew.refl _) rfl
        · intro y w2 hG hD K hK
          simp only [depsH, List.getD_cons_zero, List.getD_cons_succ, Is, and_true] at hD
          have h2 := hD.1
          have h3 := hD.2
          clear hD
          simp only [fillL, Act.put, List.setIfInBounds_toArray, List.set_cons_zero, List.set_cons_succ, List.getD_cons_zero, List.getD_cons_succ, Is] at hK ⊢
          rw [h2, h3] at hK ⊢
          clear h2 h3
          refine ite_yes (by rfl) ?_
          go_simp
          exact hK _ _ _ rfl (Grew.refl _) rfl
        · intro y w2 hG hD K hK
          simp only [depsH, List.getD_cons_zero, List.getD_cons_succ, Is, and_true] at hD
          have h2 := hD.1
          have h4 := hD.2
          clear hD
          simp only [fillL, Act.put, List.setIfInBounds_toArray, List.set_cons_zero, List.set_cons_succ, List.getD_cons_zero, List.getD_cons_succ, Is] at hK ⊢
          rw [h2, h4] at hK ⊢
          clear h2 h4
          refine ite_yes (by rfl) ?_
          go_simp
          exact hK _ _ _ rfl (Grew.refl _) rfl
        · intro y w2 hG hD K hK
          simp only [depsH, List.getD_cons_zero, List.getD_cons_succ, Is, and_true] at hD
          have h5 := hD
          clear hD
          simp only [fillL, Act.put, List.setIfInBounds_toArray, List.set_cons_zero, List.set_cons_succ, List.getD_cons_zero, List.getD_cons_succ, Is] at hK ⊢
          rw [h5] at hK ⊢
          clear h5
          refine ite_yes (by rfl) ?_
          go_simp
          exact hK _ _ _ rfl (Grew.refl _) rfl
        · intro y w2 hG hD K hK
          simp only [depsH, List.getD_cons_zero, List.getD_cons_succ, Is, and_true] at hD
          have h6 := hD
          clear hD
          simp only [fillL, Act.put, List.setIfInBounds_toArray, List.set_cons_zero, List.set_cons_succ, List.getD_cons_zero, List.getD_cons_succ, Is] at hK ⊢
          rw [h6] at hK ⊢
          clear h6
          refine ite_yes (by rfl) ?_
          go_simp
          exact hK _ _ _ rfl (Grew.refl _) rfl
        · intro y w2 hG hD K hK
          simp only [depsH, List.getD_cons_zero, List.getD_cons_succ, Is, and_true] at hD
          have h6 := hD
          clear hD
          simp only [fillL, Act.put, List.setIfInBounds_toArray, List.set_cons_zero, List.set_cons_succ, List.getD_cons_zero, List.getD_cons_succ, Is] at hK ⊢
          rw [h6] at hK ⊢
          clear h6
          refine ite_yes (by rfl) ?_
          go_simp
          exact hK _ _ _ rfl (Grew.refl _) rfl
        · intro y w2 hG hD K hK
          simp only [depsH, List.getD_cons_zero, List.getD_cons_succ, Is, and_true] at hD
          have h6 := hD.1
          have h7 := hD.2.1
          have h8 := hD.2.2
          clear hD
          simp only [fillL, Act.put, List.setIfInBounds_toArray, List.set_cons_zero, List.set_cons_succ, List.getD_cons_zero, List.getD_cons_succ, Is] at hK ⊢
          rw [h6, h7, h8] at hK ⊢
          clear h6 h7 h8
          refine ite_yes (by rfl) ?_
          go_simp
          exact hK _ _ _ rfl (Grew.refl _) rfl
        · intro y w2 hG hD K hK
          simp only [depsH, List.getD_cons_zero, List.getD_cons_succ, Is, and_true] at hD
          have h6 := hD
          clear hD
          simp only [fillL, Act.put, List.setIfInBounds_toArray, List.set_cons_zero, List.set_cons_succ, List.getD_cons_zero, List.getD_cons_succ, Is] at hK ⊢
          rw [h6] at hK ⊢
          clear h6
          refine ite_yes (by rfl) ?_
          go_simp
          exact hK _ _ _ rfl (Grew.refl _) rfl
        · intro y w2 hG hD K hK
          simp only [depsH, List.getD_cons_zero, List.getD_cons_succ, Is, and_true] at hD
          have h6 := hD
          clear hD
          simp only [fillL, Act.put, List.setIfInBounds_toArray, List.set_cons_zero, List.set_cons_succ, List.getD_cons_zero, List.getD_cons_succ, Is] at hK ⊢
          rw [h6] at hK ⊢
          clear h6
          refine ite_yes (by rfl) ?_
          go_simp
          exact hK _ _ _ rfl (Grew.refl _) rfl
        · intro y w2 hG hD K hK
          simp only [depsH, List.getD_cons_zero, List.getD_cons_succ, Is, and_true] at hD
          have h6 := hD.1
          have h10 := hD.2.1
          have h11 := hD.2.2
          clear hD
          simp only [fillL, Act.put, List.setIfInBounds_toArray, List.set_cons_zero, List.set_cons_succ, List.getD_cons_zero, List.getD_cons_succ, Is] at hK ⊢
          rw [h6, h10, h11] at hK ⊢
          clear h6 h10 h11
          refine ite_yes (by rfl) ?_
          go_simp
          exact hK _ _ _ rfl (Grew.refl _) rfl
        · intro y w2 hG hD K hK
          simp only [depsH, List.getD_cons_zero, List.getD_cons_succ, Is, and_true] at hD
          have h6 := hD.1
          have h9 := hD.2.1
          have h12 := hD.2.2
          clear hD
          simp only [fillL, Act.put, List.setIfInBounds_toArray, List.set_cons_zero, List.set_cons_succ, List.getD_cons_zero, List.getD_cons_succ, Is] at hK ⊢
          rw [h6, h9, h12] at hK ⊢
          clear h6 h9 h12
          refine ite_yes (by rfl) ?_
          go_simp
          refine (eqBytes_any _ _ _ _ (HE1.out.grew hG) (HE2.out.grew hG)).mono ?_
          rw [decide_eq_true HEQ.out]
          rintro r w3 ⟨rfl, rfl⟩
          exact hK _ _ _ rfl (Grew.refl _) rfl
        · intro y w2 hG hD K hK
          simp only [depsH, List.getD_cons_zero, List.getD_cons_succ, Is, and_true] at hD
          have h6 := hD.1
          have h13 := hD.2
          clear hD
          simp only [fillL, Act.put, List.setIfInBounds_toArray, List.set_cons_zero, List.set_cons_succ, List.getD_cons_zero, List.getD_cons_succ, Is] at hK ⊢
          rw [h6, h13] at hK ⊢
          clear h6 h13
          refine ite_yes (by rfl) ?_
          go_simp
          exact hK _ _ _ rfl (Grew.refl _) rfl
        · intro y w2 hG hD K hK
          simp only [depsH, List.getD_cons_zero, List.getD_cons_succ, Is, and_true] at hD
          have h6 := hD.1
          have h14 := hD.2
          clear hD
          simp only [fillL, Act.put, List.setIfInBounds_toArray, List.set_cons_zero, List.set_cons_succ, List.getD_cons_zero, List.getD_cons_succ, Is] at hK ⊢
          rw [h6, h14] at hK ⊢
          clear h6 h14
          refine ite_yes (by rfl) ?_
          go_simp
          exact hK _ _ _ rfl (Grew.refl _) rfl
        · intro y w2 hG hD K hK
          simp only [depsH, List.getD_cons_zero, List.getD_cons_succ, Is, and_true] at hD
          have h15 := hD
          clear hD
          simp only [fillL, Act.put, List.setIfInBounds_toArray, List.set_cons_zero, List.set_cons_succ, List.getD_cons_zero, List.getD_cons_succ, Is] at hK ⊢
          rw [h15] at hK ⊢
          clear h15
          refine ite_yes (by rfl) ?_
          go_simp
          exact hK _ _ _ rfl (Grew.refl _) rfl
        · intro y w2 hG hD K hK
          simp only [depsH, List.getD_cons_zero, List.getD_cons_succ, Is, and_true] at hD
          have h16 := hD
          clear hD
          simp only [fillL, Act.put, List.setIfInBounds_toArray, List.set_cons_zero, List.set_cons_succ, List.getD_cons_zero, List.getD_cons_succ, Is] at hK ⊢
          rw [h16] at hK ⊢
          clear h16
          refine ite_yes (by rfl) ?_
          go_simp
          exact hK _ _ _ rfl (Grew.refl _) rfl
        · intro y w2 hG hD K hK
          simp only [depsH, List.getD_cons_zero, List.getD_cons_succ, Is, and_true] at hD
          have h16 := hD.1
          have h17 := hD.2
          clear hD
          simp only [fillL, Act.put, List.setIfInBounds_toArray, List.set_cons_zero, List.set_cons_succ, List.getD_cons_zero, List.getD_cons_succ, Is] at hK ⊢
          rw [h16, h17] at hK ⊢
          clear h16 h17
          refine ite_yes (by rfl) ?_
          go_simp
          exact hK _ _ _ rfl (Grew.refl _) rfl
        · intro y w2 hG hD K hK
          simp only [depsH, List.getD_cons_zero, List.getD_cons_succ, Is, and_true] at hD
          have h16 := hD
          clear hD
          simp only [fillL, Act.put, List.setIfInBounds_toArray, List.set_cons_zero, List.set_cons_succ, List.getD_cons_zero, List.getD_cons_succ, Is] at hK ⊢
          rw [h16] at hK ⊢
          clear h16
          refine ite_yes (by rfl) ?_
          go_simp
          exact hK _ _ _ rfl (Grew.refl _) rfl
        · intro y w2 hG hD K hK
          simp only [depsH, List.getD_cons_zero, List.getD_cons_succ, Is, and_true] at hD
          have h16 := hD.1
          have h19 := hD.2
          clear hD
          simp only [fillL, Act.put, List.setIfInBounds_toArray, List.set_cons_zero, List.set_cons_succ, List.getD_cons_zero, List.getD_cons_succ, Is] at hK ⊢
          rw [h16, h19] at hK ⊢
          clear h16 h19
          refine ite_yes (by rfl) ?_
          go_simp
          exact hK _ _ _ rfl (Grew.refl _) rfl
        · intro y w2 hG hD K hK
          simp only [depsH, List.getD_cons_zero, List.getD_cons_succ, Is, and_true] at hD
          have h16 := hD.1
          have h18 := hD.2.1
          have h20 := hD.2.2
          clear hD
          simp only [fillL, Act.put, List.setIfInBounds_toArray, List.set_cons_zero, List.set_cons_succ, List.getD_cons_zero, List.getD_cons_succ, Is] at hK ⊢
          rw [h16, h18, h20] at hK ⊢
          clear h16 h18 h20
          refine ite_yes (by rfl) ?_
          go_simp
          exact hK _ _ _ rfl (Grew.refl _) (by first | rfl | (simp; omega))
        · intro y w2 hG hD K hK
          simp only [depsH, List.getD_cons_zero, List.getD_cons_succ, Is, and_true] at hD
          have h16 := hD.1
          have h21 := hD.2
          clear hD
          simp only [fillL, Act.put, List.setIfInBounds_toArray, List.set_cons_zero, List.set_cons_succ, List.getD_cons_zero, List.getD_cons_succ, Is] at hK ⊢
          rw [h16, h21] at hK ⊢
          clear h16 h21
          refine ite_yes (by rfl) ?_
          go_simp
          exact hK _ _ _ rfl (Grew.refl _) rfl
        · intro y w2 hG hD K hK
          simp only [depsH, List.getD_cons_zero, List.getD_cons_succ, Is, and_true] at hD
          have h22 := hD
          clear hD
          simp only [fillL, Act.put, List.setIfInBounds_toArray, List.set_cons_zero, List.set_cons_succ, List.getD_cons_zero, List.getD_cons_succ, Is] at hK ⊢
          rw [h22] at hK ⊢
          clear h22
          refine ite_yes (by rfl) ?_
          go_simp
          exact hK _ _ _ rfl (Grew.refl _) rfl
        · intro y w2 hG hD K hK
          simp only [depsH, List.getD_cons_zero, List.getD_cons_succ, Is, and_true] at hD
          have h22 := hD
          clear hD
          simp only [fillL, Act.put, List.setIfInBounds_toArray, List.set_cons_zero, List.set_cons_succ, List.getD_cons_zero, List.getD_cons_succ, Is] at hK ⊢
          rw [h22] at hK ⊢
          clear h22
          refine ite_yes (by rfl) ?_
          go_simp
          exact hK _ _ _ rfl (Grew.refl _) rfl
        · intro y w2 hG hD K hK
          simp only [depsH, List.getD_cons_zero, List.getD_cons_succ, Is, and_true] at hD
          have h22 := hD.1
          have h23 := hD.2.1
          have h24 := hD.2.2
          clear hD
          simp only [fillL, Act.put, List.setIfInBounds_toArray, List.set_cons_zero, List.set_cons_succ, List.getD_cons_zero, List.getD_cons_succ, Is] at hK ⊢
          rw [h22, h23, h24] at hK ⊢
          clear h22 h23 h24
          refine ite_yes (by rfl) ?_
          go_simp
          exact hK _ _ _ rfl (Grew.refl _) rfl
        · intro y w2 hG hD K hK
          simp only [depsH, List.getD_cons_zero, List.getD_cons_succ, Is, and_true] at hD
          have h22 := hD.1
          have h25 := hD.2
          clear hD
          simp only [fillL, Act.put, List.setIfInBounds_toArray, List.set_cons_zero, List.set_cons_succ, List.getD_cons_zero, List.getD_cons_succ, Is] at hK ⊢
          rw [h22, h25] at hK ⊢
          clear h22 h25
          refine ite_yes (by rfl) ?_
          go_simp
          exact hK _ _ _ rfl (Grew.refl _) rfl
        · intro y w2 hG hD K hK
          simp only [depsH, List.getD_cons_zero, List.getD_cons_succ, Is, and_true] at hD
          have h22 := hD.1
          have h26 := hD.2
          clear hD
          have dd0 := hG.cell d0
          simp only [fillL, Act.put, List.setIfInBounds_toArray, List.set_cons_zero, List.set_cons_succ, List.getD_cons_zero, List.getD_cons_succ, Is] at hK ⊢
          rw [h22, h26] at hK ⊢
          clear h22 h26
          refine ite_yes (by rfl) ?_
          go_simp
          exact hK _ _ _ rfl (Grew.refl _) rfl
        · intro y w2 hG hD K hK
          simp only [depsH, List.getD_cons_zero, List.getD_cons_succ, Is, and_true] at hD
          have h22 := hD.1
          have h27 := hD.2
          clear hD
          simp only [fillL, Act.put, List.setIfInBounds_toArray, List.set_cons_zero, List.set_cons_succ, List.getD_cons_zero, List.getD_cons_succ, Is] at hK ⊢
          rw [h22, h27] at hK ⊢
          clear h22 h27
          refine ite_yes (by rfl) ?_
          go_simp
          refine (bring_any dd.kind 5 _ (by decide) (by decide)).mono ?_
          rw [H3.out]
          rintro r w3 ⟨rfl, rfl⟩
          exact hK _ _ _ rfl (Grew.refl _) rfl
        · intro y w2 hG hD K hK
          simp only [depsH, List.getD_cons_zero, List.getD_cons_succ, Is, and_true] at hD
          have h22 := hD.1
          have h28 := hD.2
          clear hD
          simp only [fillL, Act.put, List.setIfInBounds_toArray, List.set_cons_zero, List.set_cons_succ, List.getD_cons_zero, List.getD_cons_succ, Is] at hK ⊢
          rw [h22, h28] at hK ⊢
          clear h22 h28
          refine ite_yes (by rfl) ?_
          go_simp
          exact hK _ _ _ rfl (Grew.refl _) rfl
        · intro y w2 hG hD K hK
          simp only [depsH, List.getD_cons_zero, List.getD_cons_succ, Is, and_true] at hD
          have h16 := hD.1
          have h22 := hD.2.1
          have h29 := hD.2.2
          clear hD
          simp only [fillL, Act.put, List.setIfInBounds_toArray, List.set_cons_zero, List.set_cons_succ, List.getD_cons_zero, List.getD_cons_succ, Is] at hK ⊢
          rw [h16, h22, h29] at hK ⊢
          clear h16 h22 h29
          refine ite_yes (by rfl) ?_
          go_simp
          exact hK _ _ _ rfl (Grew.refl _) rfl
        · intro y w2 hG hD K hK
          simp only [depsH, List.getD_cons_zero, List.getD_cons_succ, Is, and_true] at hD
          have h16 := hD.1
          have h30 := hD.2
          clear hD
          simp only [fillL, Act.put, List.setIfInBounds_toArray, List.set_cons_zero, List.set_cons_succ, List.getD_cons_zero, List.getD_cons_succ, Is] at hK ⊢
          rw [h16, h30] at hK ⊢
          clear h16 h30
          refine ite_yes (by rfl) ?_
          go_simp
          exact hK _ _ _ rfl (Grew.refl _) rfl
        · intro y w2 hG hD K hK
          simp only [depsH, List.getD_cons_zero, List.getD_cons_succ, Is, and_true] at hD
          have h31 := hD
          clear hD
          simp only [fillL, Act.put, List.setIfInBounds_toArray, List.set_cons_zero, List.set_cons_succ, List.getD_cons_zero, List.getD_cons_succ, Is] at hK ⊢
          rw [h31] at hK ⊢
          clear h31
          refine ite_yes (by rfl) ?_
          go_simp
          exact hK _ _ _ rfl (Grew.refl _) rfl
        · intro y w2 hG hD K hK
          simp only [depsH, List.getD_cons_zero, List.getD_cons_succ, Is, and_true] at hD
          have h32 := hD
          clear hD
          simp only [fillL, Act.put, List.setIfInBounds_toArray, List.set_cons_zero, List.set_cons_succ, List.getD_cons_zero, List.getD_cons_succ, Is] at hK ⊢
          rw [h32] at hK ⊢
          clear h32
          refine ite_yes (by rfl) ?_
          go_simp
          exact hK _ _ _ rfl (Grew.refl _) rfl
        · intro y w2 hG hD K hK
          simp only [depsH, List.getD_cons_zero, List.getD_cons_succ, Is, and_true] at hD
          have h32 := hD.1
          have h33 := hD.2
          clear hD
          simp only [fillL, Act.put, List.setIfInBounds_toArray, List.set_cons_zero, List.set_cons_succ, List.getD_cons_zero, List.getD_cons_succ, Is] at hK ⊢
          rw [h32, h33] at hK ⊢
          clear h32 h33
          refine ite_yes (by rfl) ?_
          go_simp
          refine (lenL (HL.out.grew hG)).mono ?_
          rintro r w3 ⟨rfl, rfl⟩
          exact hK _ _ _ rfl (Grew.refl _) rfl
        · intro y w2 hG hD K hK
          simp only [depsH, List.getD_cons_zero, List.getD_cons_succ, Is, and_true] at hD
          have h32 := hD
          clear hD
          simp only [fillL, Act.put, List.setIfInBounds_toArray, List.set_cons_zero, List.set_cons_succ, List.getD_cons_zero, List.getD_cons_succ, Is] at hK ⊢
          rw [h32] at hK ⊢
          clear h32
          refine ite_yes (by rfl) ?_
          go_simp
          exact hK _ _ _ rfl (Grew.refl _) rfl
        · intro y w2 hG hD K hK
          simp only [depsH, List.getD_cons_zero, List.getD_cons_succ, Is, and_true] at hD
          have h32 := hD.1
          have h35 := hD.2
          clear hD
          simp only [fillL, Act.put, List.setIfInBounds_toArray, List.set_cons_zero, List.set_cons_succ, List.getD_cons_zero, List.getD_cons_succ, Is] at hK ⊢
          rw [h32, h35] at hK ⊢
          clear h32 h35
          refine ite_yes (by rfl) ?_
          go_simp
          exact hK _ _ _ rfl (Grew.refl _) rfl
        · intro y w2 hG hD K hK
          simp only [depsH, List.getD_cons_zero, List.getD_cons_succ, Is, and_true] at hD
          have h32 := hD.1
          have h34 := hD.2.1
          have h36 := hD.2.2
          clear hD
          simp only [fillL, Act.put, List.setIfInBounds_toArray, List.set_cons_zero, List.set_cons_succ, List.getD_cons_zero, List.getD_cons_succ, Is] at hK ⊢
          rw [h32, h34, h36] at hK ⊢
          clear h32 h34 h36
          refine ite_yes (by rfl) ?_
          go_simp
          exact hK _ _ _ rfl (Grew.refl _) (by simp)
        · intro y w2 hG hD K hK
          simp only [depsH, List.getD_cons_zero, List.getD_cons_succ, Is, and_true] at hD
          have h32 := hD.1
          have h37 := hD.2
          clear hD
          simp only [fillL, Act.put, List.setIfInBounds_toArray, List.set_cons_zero, List.set_cons_succ, List.getD_cons_zero, List.getD_cons_succ, Is] at hK ⊢
          rw [h32, h37] at hK ⊢
          clear h32 h37
          refine ite_yes (by rfl) ?_
          go_simp
          exact hK _ _ _ rfl (Grew.refl _) rfl
        · intro y w2 hG hF
          simp only [factsH, Is, and_true, Nat.reduceAdd] at hF
          have h0 := hF.1
          have h1 := hF.2.1
          have h2 := hF.2.2.1
          have h3 := hF.2.2.2.1
          have h4 := hF.2.2.2.2.1
          have h5 := hF.2.2.2.2.2.1
          have h6 := hF.2.2.2.2.2.2.1
          have h7 := hF.2.2.2.2.2.2.2.1
          have h8 := hF.2.2.2.2.2.2.2.2.1
          have h9 := hF.2.2.2.2.2.2.2.2.2.1
          have h10 := hF.2.2.2.2.2.2.2.2.2.2.1
          have h11 := hF.2.2.2.2.2.2.2.2.2.2.2.1
          have h12 := hF.2.2.2.2.2.2.2.2.2.2.2.2.1
          have h13 := hF.2.2.2.2.2.2.2.2.2.2.2.2.2.1
          have h14 := hF.2.2.2.2.2.2.2.2.2.2.2.2.2.2.1
          have h15 := hF.2.2.2.2.2.2.2.2.2.2.2.2.2.2.2.1
          have h16 := hF.2.2.2.2.2.2.2.2.2.2.2.2.2.2.2.2.1
          have h17 := hF.2.2.2.2.2.2.2.2.2.2.2.2.2.2.2.2.2.1
          have h18 := hF.2.2.2.2.2.2.2.2.2.2.2.2.2.2.2.2.2.2.1
          have h19 := hF.2.2.2.2.2.2.2.2.2.2.2.2.2.2.2.2.2.2.2.1
          have h20 := hF.2.2.2.2.2.2.2.2.2.2.2.2.2.2.2.2.2.2.2.2.1
          have h21 := hF.2.2.2.2.2.2.2.2.2.2.2.2.2.2.2.2.2.2.2.2.2.1
          have h22 := hF.2.2.2.2.2.2.2.2.2.2.2.2.2.2.2.2.2.2.2.2.2.2.1
          have h23 := hF.2.2.2.2.2.2.2.2.2.2.2.2.2.2.2.2.2.2.2.2.2.2.2.1
          have h24 := hF.2.2.2.2.2.2.2.2.2.2.2.2.2.2.2.2.2.2.2.2.2.2.2.2.1
          have h25 := hF.2.2.2.2.2.2.2.2.2.2.2.2.2.2.2.2.2.2.2.2.2.2.2.2.2.1
          have h26 := hF.2.2.2.2.2.2.2.2.2.2.2.2.2.2.2.2.2.2.2.2.2.2.2.2.2.2.1
          have h27 := hF.2.2.2.2.2.2.2.2.2.2.2.2.2.2.2.2.2.2.2.2.2.2.2.2.2.2.2.1
          have h28 := hF.2.2.2.2.2.2.2.2.2.2.2.2.2.2.2.2.2.2.2.2.2.2.2.2.2.2.2.2.1
          have h29 := hF.2.2.2.2.2.2.2.2.2.2.2.2.2.2.2.2.2.2.2.2.2.2.2.2.2.2.2.2.2.1
          have h30 := hF.2.2.2.2.2.2.2.2.2.2.2.2.2.2.2.2.2.2.2.2.2.2.2.2.2.2.2.2.2.2.1
          have h31 := hF.2.2.2.2.2.2.2.2.2.2.2.2.2.2.2.2.2.2.2.2.2.2.2.2.2.2.2.2.2.2.2.1
          have h32 := hF.2.2.2.2.2.2.2.2.2.2.2.2.2.2.2.2.2.2.2.2.2.2.2.2.2.2.2.2.2.2.2.2.1
          have h33 := hF.2.2.2.2.2.2.2.2.2.2.2.2.2.2.2.2.2.2.2.2.2.2.2.2.2.2.2.2.2.2.2.2.2.1
          have h34 := hF.2.2.2.2.2.2.2.2.2.2.2.2.2.2.2.2.2.2.2.2.2.2.2.2.2.2.2.2.2.2.2.2.2.2.1
          have h35 := hF.2.2.2.2.2.2.2.2.2.2.2.2.2.2.2.2.2.2.2.2.2.2.2.2.2.2.2.2.2.2.2.2.2.2.2.1
          have h36 := hF.2.2.2.2.2.2.2.2.2.2.2.2.2.2.2.2.2.2.2.2.2.2.2.2.2.2.2.2.2.2.2.2.2.2.2.2.1
          have h37 := hF.2.2.2.2.2.2.2.2.2.2.2.2.2.2.2.2.2.2.2.2.2.2.2.2.2.2.2.2.2.2.2.2.2.2.2.2.2.1
          have h38 := hF.2.2.2.2.2.2.2.2.2.2.2.2.2.2.2.2.2.2.2.2.2.2.2.2.2.2.2.2.2.2.2.2.2.2.2.2.2.2
          clear hF
          simp only [fillL, Act.put, List.setIfInBounds_toArray, List.set_cons_zero, List.set_cons_succ, List.getD_cons_zero, List.getD_cons_succ, Is]
          rw [h0, h1, h2, h3, h4, h5, h6, h7, h8, h9, h10, h11, h12, h13, h14, h15, h16, h17, h18, h19, h20, h21, h22, h23, h24, h25, h26, h27, h28, h29, h30, h31, h32, h33, h34, h35, h36, h37, h38]
          clear h0 h1 h2 h3 h4 h5 h6 h7 h8 h9 h10 h11 h12 h13 h14 h15 h16 h17 h18 h19 h20 h21 h22 h23 h24 h25 h26 h27 h28 h29 h30 h31 h32 h33 h34 h35 h36 h37 h38
          have HF := Lib.hid (HL.out.grew hG)
          clear hG d0
          go_wp2_with fail
          go_roundw
          case rel => exact ⟨k + 1, by omega, by omega, by go_num, s2, HF.out, HB2.out.1, HB2.out.2⟩
          case measure => simp [intOf]; omega
    · have hdec : (k < l.length ∧ ¬ k < 60) ∨ ¬ k < l.length := by omega
      clear hgo H
      rcases hdec with ⟨hdec1, hdec2⟩ | hdec1
      all_goals
        go_wp2
        go_ret
        exact ⟨rfl, HW.out.below⟩

theorem bufStays_row {H : Type} (enc : TypeId × Value → H) (W : World) (base : Nat) (v0 : Value) (d0 : DataW H) (p0 : List MemPlace) (o0 : Value.okWide Try.prog W .any base 22 v0) (k0 : DataW.Trod enc Try.prog W 0 (fun _ => true) true 22 v0 d0 p0) :
    Calls Try.prog 4 #[v0] W fun e w' => e = .returned (.bool true) ∧ Below W.heap.size W w' := by
  obtain ⟨l, hl, hlen, hok⟩ := open_Dos o0 k0
  exact bufStays_any v0 l W hl hlen hok

theorem bufStays_own : ownKnob Try.prog.godebug = none := by kernel_rfl
theorem bufStays_laidOut : laidOutB Try.prog = true := by kernel_rfl

set_option maxRecDepth 100000 in
theorem bufStays_lifted (os : Os) (started : os.Started) (H : Type) (enc : TypeId × Value → H) :
    ReturnsInHanded {} Try.checked os 4 .any (Rows.bufStaysSpec.pre6 enc Try.prog Try.f4 Rows.bufStaysRow.domain false) (Rows.bufStaysSpec.post enc Try.prog Try.f4 false true false false) := by
  refine returnsInHanded_of_change (C := Try.checked) bufStays_own started (by kernel_rfl) Try.func4
    (ChangeSpec.witness6 (enc := enc) (C := Try.checked) false ⟨#[], #[.slice none 0 0], []⟩ 8 (by kernel_rfl) (by kernel_rfl) (by kernel_rfl) (by kernel_rfl)) ?_
  intro W base args ds gs before hval0 hW hcnd _
  have hval : ∀ (j : Nat) t v, Try.f4.params[j]? = some t → args[j]? = some v → Value.okWide Try.prog W .any base t v := hval0
  have hW' := hW
  obtain ⟨p, q, hA0, hV, rfl, hfz, hnd⟩ := hW
  have hA : DataW.TrodAll enc Try.prog W 0 (fun _ => true) true Try.f4.params.toList args.toList ds p := hA0
  rw [Try.params4] at hA hval
  obtain ⟨v0, vs0, d0, ds0, p0, q0, hargs, rfl, rfl, h0, r0⟩ := trodAll_cons hA
  obtain ⟨rfl, rfl, rfl⟩ := trodAll_nil r0
  obtain rfl : args = #[v0] := by cases args; simp_all
  obtain ⟨rfl, rfl⟩ := trodVars_none hV
  have lt0 : ∀ x ∈ p0, x.block < W.heap.size := by obtain ⟨m, hm⟩ := h0; exact DataW.trod_lt m _ _ _ hm
  have hw := bufStays_row enc W base v0 d0 p0 (hval 0 22 v0 rfl rfl) h0
  clear hA0 hval0
  refine hw.mono fun e W' ⟨he, bel⟩ => ?_
  subst he
  exact ⟨_, rfl, _, _, _, [], _, [], hW', trodAll_mk1 (shut_bool Try.underlying4 _), (trodAll_cons_mk (Below.trod bufStays_laidOut (by kernel_rfl) (of_decide_eq_true (by kernel_rfl)) h0 bel lt0) trodAll_mk0), rfl, Below.frame bel _, fun h => by cases h⟩

/-- The statement. -/
theorem bufStays_holds : Rows.BufStaysSaid :=
  OpenClaim.holds_of_wide 4 Try.f4 rfl rfl rfl rfl rfl rfl rfl ⟨rfl, rfl, rfl, rfl, rfl⟩ rfl rfl rfl rfl rfl (by kernel_rfl) Try.func4 (by kernel_rfl)
    (of_decide_eq_true (by kernel_rfl)) (by unfold Func.isWrapper; first | (rw [if_pos (by decide +kernel)]; kernel_rfl) | (rw [if_neg (by decide +kernel)]; exact ⟨rfl, rfl⟩))
    (fun os started H enc _ => bufStays_lifted os started H enc)
end Go.Proofs.Ytejaklkageieoaa
