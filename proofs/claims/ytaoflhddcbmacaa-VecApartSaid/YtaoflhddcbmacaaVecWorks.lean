/-
  Vectors: the examples of the law.
-/
import Derived.Test.YtaoflhddcbmacaaVecPuts
namespace Go.Proofs.Ytaoflhddcbmacaa
open Go Go.ChangeShapes Go.WideShapes Go.ChangeAt Go.RowKit Go.Joins
open Go.Proofs.Ytaoflhddcbmacaa.Ft (V3 vV okV ValsAt inlineB legalB packF codeF typedF allF)
set_option linter.unusedVariables false
set_option linter.unusedSimpArgs false

theorem vals_row {w : World} {g n c : Nat} {l : List V3} (hn : n = l.length) (hg : w.heap[g]? = some (.cells (valCells l).toArray 28 (0, 0))) : ValsAt w (.slice (some ⟨g, 0, none⟩) n c) l := by
  subst hn
  refine ⟨_, c, rfl, fun i x hx => ?_⟩
  obtain ⟨e0, e1, e2⟩ := valCells_get l i x hx
  refine ⟨_, _, rfl, ?_, ?_, ?_⟩
  · exact row_cell hg _ _ (by simpa using e0)
  · exact row_cell hg _ _ (by simpa using e1)
  · exact row_cell hg _ _ (by simpa using e2)
section
variable {lv : Value} {l : List V3} {most : Int} {s : St}
theorem Puts.un (hl : (s.1.length : Int) ≤ most) (hm1 : most ≤ 1048576) (hlen : l.length ≤ 1048576) (hok : ∀ v ∈ l, okV v) (hs : s.2 = 0) {q : V3 × Int} {s' : St} (h : putF most legalE true true 10 0 l s = (q, s')) : Puts (-1) 0 lv l most s q s' := by
  intro B w p o hb hB hv hap
  have := put_un s lv l hb hB hl hm1 hv hlen hok hap hs
  rw [h] at this
  exact this
theorem Puts.ty0 (elem kd : Int) (hkd : typedF elem 0 = (kd, true)) (hne : elem ≠ -1) (hl : (s.1.length : Int) ≤ most) (hm1 : most ≤ 1048576) (hlen : l.length ≤ 1048576) (hok : ∀ v ∈ l, okV v) (hs : s.2 = 0) {q : V3 × Int} {s' : St} (h : putF most (takesE elem) true false kd 0 l s = (q, s')) : Puts elem 0 lv l most s q s' := by
  intro B w p o hb hB hv hap
  have := put_ty0 elem kd hkd hne s lv l hb hB hl hm1 hv hlen hok hap hs
  rw [h] at this
  exact this
theorem Puts.fix (elem kd many : Int) (hkd : typedF elem many = (kd, true)) (hmany : many = (l.length : Int)) (hpos : 0 < l.length) (hl : (s.1.length : Int) ≤ most) (hm1 : most ≤ 1048576) (hlen : l.length ≤ 1048576) (hok : ∀ v ∈ l, okV v) (hs : s.2 = 0) {q : V3 × Int} {s' : St} (h : putF most (takesE elem) false false kd 0 l s = (q, s')) : Puts elem many lv l most s q s' := by
  subst hmany
  intro B w p o hb hB hv hap
  have := put_fix elem kd s lv l hkd hpos hb hB hl hm1 hv hlen hok hap hs
  rw [h] at this
  exact this
theorem Puts.bad (elem many kd : Int) (hkd : typedF elem many = (kd, true)) (hm : 0 < many) (hlen : l.length ≤ 1048576) (hlm : (l.length : Int) ≠ many) (hs : s.2 = 0) : Puts elem many lv l most s ((0, 0, 0), 2) s := by
  intro B w p o hb hB hv hap
  exact put_bad elem many kd hkd hm s lv l hb hB hv hlen hlm hs
theorem Puts.no (elem many : Int) (hkd : (typedF elem many).2 = false) (hne : ¬ (elem = -1 ∧ many = 0)) (hlen : l.length ≤ 1048576) (hs : s.2 = 0) : Puts elem many lv l most s ((0, 0, 0), 20) s := by
  intro B w p o hb hB hv hap
  exact put_no elem many hkd hne s lv l hb hB hv hlen hs
end
theorem ok_small {l : List V3} (h : l.all (fun v => decide (0 ≤ v.2.2) && decide (v.2.2 ≤ 18446744073709551615)) = true) : ∀ v ∈ l, okV v := by
  intro v hv
  have := List.all_eq_true.1 h v hv
  simp at this
  exact this
abbrev aB : ByteArray := ⟨#[97, 98, 99, 0]⟩
abbrev bB : ByteArray := ⟨#[97, 98, 99]⟩
abbrev eB : ByteArray := ⟨#[]⟩
theorem puts1 (lv : Value) : Puts (-1) 0 lv [(1, 1, 5), (5, 1, 0)] 1000 (aB.data.toList, 0) ((10, 1, 5), 0) ((aB ++ ⟨#[2, 5, 6, 4, 20]⟩).data.toList, 0) :=
  Puts.un (by decide) (by decide) (by decide) (ok_small (by decide)) rfl (by kernel_rfl)
theorem puts2 (lv : Value) : Puts 1 0 lv [(1, 1, 1), (1, 2, 300)] 1000 (bB.data.toList, 0) ((11, 2, 6), 0) ((bB ++ ⟨#[0, 2, 0, 1, 0, 44, 1]⟩).data.toList, 0) :=
  Puts.ty0 1 11 (by kernel_rfl) (by decide) (by decide) (by decide) (by decide) (ok_small (by decide)) rfl (by kernel_rfl)
theorem puts3 (lv : Value) : Puts 2 3 lv [(2, 1, 1), (2, 1, 2), (2, 1, 3)] 1000 (aB.data.toList, 0) ((20, 1, 4), 0) ((aB ++ ⟨#[1, 2, 3]⟩).data.toList, 0) :=
  Puts.fix 2 20 3 (by kernel_rfl) rfl (by decide) (by decide) (by decide) (by decide) (ok_small (by decide)) rfl (by kernel_rfl)
theorem puts4 (lv : Value) : Puts 2 2 lv [(2, 1, 1), (2, 1, 2), (2, 1, 3)] 1000 (aB.data.toList, 0) ((0, 0, 0), 2) ((aB ++ eB).data.toList, 0) :=
  Puts.bad 2 2 17 (by kernel_rfl) (by decide) (by decide) (by decide) rfl
theorem puts5 (lv : Value) : Puts 5 0 lv [(5, 1, 0)] 1000 (aB.data.toList, 0) ((0, 0, 0), 20) ((aB ++ eB).data.toList, 0) :=
  Puts.no 5 0 (by kernel_rfl) (by decide) (by decide) rfl
theorem puts6 (lv : Value) : Puts 1 0 lv [(5, 1, 0)] 1000 (aB.data.toList, 0) ((0, 0, 0), 60) ((aB ++ eB).data.toList, 0) :=
  Puts.ty0 1 11 (by kernel_rfl) (by decide) (by decide) (by decide) (by decide) (ok_small (by decide)) rfl (by kernel_rfl)
theorem puts7 (lv : Value) : Puts (-1) 0 lv [(5, 1, 5)] 1000 (aB.data.toList, 0) ((0, 0, 0), 211) ((aB ++ eB).data.toList, 0) :=
  Puts.un (by decide) (by decide) (by decide) (ok_small (by decide)) rfl (by kernel_rfl)
theorem puts8 (lv : Value) : Puts (-1) 2 lv [] 1000 (aB.data.toList, 0) ((0, 0, 0), 20) ((aB ++ eB).data.toList, 0) :=
  Puts.no (-1) 2 (by kernel_rfl) (by decide) (by decide) rfl
theorem puts_at (ahead want : ByteArray) (elem many : Int) (v : V3) (e : Int) (g n : Nat) (l : List V3) (w : World) (hn : n = l.length) (hg : w.heap[g]? = some (.cells (valCells l).toArray 28 (0, 0)))
    (hs : ahead.size ≤ 900) (hs2 : (ahead ++ want).size ≤ 1000) (hput : ∀ lv, Puts elem many lv l 1000 (ahead.data.toList, 0) (v, e) ((ahead ++ want).data.toList, 0)) :
    Calls Try.prog 30 #[.string ahead, .int .i64 elem, .int .i64 many, .slice (some ⟨g, 0, none⟩) n n, .string want, vV v, .int .i64 e] w fun r w' => r = .returned (.bool true) ∧ Grew w w' :=
  puts_true ahead want elem many v e _ l w (vals_row hn hg) (fun ad n c h => by cases h; exact (Array.getElem?_eq_some_iff.1 hg).1) hs hs2 (hput _)
theorem slice1_st {C : Array Value} : ∀ (v : Value) (w w' : World), Grew w w' → (∃ g, v = .slice (some ⟨g, 0, none⟩) 1 1 ∧ w.heap[g]? = some (.cells C 28)) → (∃ g, v = .slice (some ⟨g, 0, none⟩) 1 1 ∧ w'.heap[g]? = some (.cells C 28)) := fun v w w' hg ⟨g, h1, h2⟩ => ⟨g, h1, hg.heap h2⟩
set_option maxRecDepth 100000 in
set_option maxHeartbeats 4000000 in
theorem works17_any (w : World) : Calls Try.prog 12 #[] w fun r w' => r = .returned (.bool true) ∧ Grew w w' := by
  go_enter Try.func12, Try.ntmps12
  go_wp2_with fail
  have hg0 : Grew w (w.alloc (.cells #[.int .i64 0, .int .i64 0, .int .u64 0] 28)) := (Grew.refl w).alloc _
  have hr0 := heap_alloc_new w (.cells #[.int .i64 0, .int .i64 0, .int .u64 0] 28)
  generalize (w.alloc (.cells #[.int .i64 0, .int .i64 0, .int .u64 0] 28)) = w0 at *
  have HG0 := Lib.hid hg0
  have HR0 := Lib.hid hr0
  clear hg0 hr0
  refine (num17_any 5 1 _).mono ?_
  rintro r w1 ⟨rfl, hg⟩
  have HG1 := Lib.hid hg
  clear hg
  go_wp2_with fail
  refine (text17_any 0 _).mono ?_
  rintro r w2 ⟨rfl, hg⟩
  have HG2 := Lib.hid (HG1.out.trans hg)
  clear hg
  go_wp2_with fail
  refine (puts_at aB ⟨#[2, 5, 6, 4, 20]⟩ (-1) 0 (10, 1, 5) 0 w2.heap.size 2 [(1, 1, 5), (5, 1, 0)] _ rfl (heap_alloc_new w2 _) (by decide) (by decide) puts1).mono ?_
  rintro r w3 ⟨rfl, hg⟩
  have HG3 := Lib.hid (HG2.out.trans (((Grew.refl w2).alloc _).trans hg))
  clear hg
  go_wp2_with fail
  refine (num17_any 1 1 _).mono ?_
  rintro r w4 ⟨rfl, hg⟩
  have HG4 := Lib.hid (HG3.out.trans hg)
  clear hg
  go_wp2_with fail
  refine (num17_any 300 2 _).mono ?_
  rintro r w5 ⟨rfl, hg⟩
  have HG5 := Lib.hid (HG4.out.trans hg)
  clear hg
  go_wp2_with fail
  refine (puts_at bB ⟨#[0, 2, 0, 1, 0, 44, 1]⟩ 1 0 (11, 2, 6) 0 w5.heap.size 2 [(1, 1, 1), (1, 2, 300)] _ rfl (heap_alloc_new w5 _) (by decide) (by decide) puts2).mono ?_
  rintro r w6 ⟨rfl, hg⟩
  have HG6 := Lib.hid (HG5.out.trans (((Grew.refl w5).alloc _).trans hg))
  clear hg
  go_wp2_with fail
  refine (uns17_any 1 1 _).mono ?_
  rintro r w7 ⟨rfl, hg⟩
  have HG7 := Lib.hid (HG6.out.trans hg)
  clear hg
  go_wp2_with fail
  refine (uns17_any 2 1 _).mono ?_
  rintro r w8 ⟨rfl, hg⟩
  have HG8 := Lib.hid (HG7.out.trans hg)
  clear hg
  go_wp2_with fail
  refine (uns17_any 3 1 _).mono ?_
  rintro r w9 ⟨rfl, hg⟩
  have HG9 := Lib.hid (HG8.out.trans hg)
  clear hg
  go_wp2_with fail
  have hr9 := heap_alloc_new w9 (.cells #[.int .i64 2, .int .i64 1, .int .u64 1, .int .i64 2, .int .i64 1, .int .u64 2, .int .i64 2, .int .i64 1, .int .u64 3] 28)
  have HR9 := Lib.hid hr9
  clear hr9
  refine (puts_at aB ⟨#[1, 2, 3]⟩ 2 3 (20, 1, 4) 0 w9.heap.size 3 [(2, 1, 1), (2, 1, 2), (2, 1, 3)] _ rfl HR9.out (by decide) (by decide) puts3).mono ?_
  rintro r wa ⟨rfl, hg⟩
  have HGa := Lib.hid (HG9.out.trans (((Grew.refl w9).alloc _).trans hg))
  have HRa := Lib.hid (hg.heap HR9.out)
  have hz := HGa.out.heap HR0.out
  have z0 := row_cell hz 0 _ rfl
  have z1 := row_cell hz 1 _ rfl
  have z2 := row_cell hz 2 _ rfl
  clear hg hz
  go_wp2_with fail
  refine (puts_at aB eB 2 2 (0, 0, 0) 2 w9.heap.size 3 [(2, 1, 1), (2, 1, 2), (2, 1, 3)] _ rfl HRa.out (by decide) (by decide) puts4).mono ?_
  rintro r wb ⟨rfl, hg⟩
  have HG := Lib.hid (HG0.out.trans (HGa.out.trans hg))
  have hz := (HGa.out.trans hg).heap HR0.out
  clear z0 z1 z2
  have z0 := row_cell hz 0 _ rfl
  have z1 := row_cell hz 1 _ rfl
  have z2 := row_cell hz 2 _ rfl
  clear hg hz HG1 HG2 HG3 HG4 HG5 HG6 HG7 HG8 HG9 HGa HRa HR9
  go_wp2_with fail
  refine wp_region_tables Grew [[], [0], [], [1, 2], [3], [4], [4, 5], [4], [4, 6, 7], [4, 8], [9], [10], [10, 11], [10], [10, 12, 13], [10, 14], [15], [16], [16, 17], [16, 18], [19]] [[(34, 2), (35, 3), (36, 4), (37, 5), (38, 6), (39, 7), (40, 8), (41, 9), (42, 10), (43, 11), (44, 12), (45, 13), (46, 14), (47, 15), (48, 16), (49, 17), (50, 18), (51, 19), (0, 20)], [(32, 0), (34, 2), (36, 4), (37, 5), (38, 6), (39, 7), (40, 8), (41, 9), (42, 10), (43, 11), (44, 12), (45, 13), (46, 14), (47, 15), (48, 16), (49, 17), (50, 18), (51, 19), (0, 20)], [(32, 0), (33, 1), (36, 4), (37, 5), (38, 6), (39, 7), (40, 8), (41, 9), (42, 10), (43, 11), (44, 12), (45, 13), (46, 14), (47, 15), (48, 16), (49, 17), (50, 18), (51, 19), (0, 20)], [(32, 0), (33, 1), (34, 2), (37, 5), (38, 6), (39, 7), (40, 8), (41, 9), (42, 10), (43, 11), (44, 12), (45, 13), (46, 14), (47, 15), (48, 16), (49, 17), (50, 18), (51, 19), (0, 20)], [(32, 0), (33, 1), (34, 2), (35, 3), (42, 10), (43, 11), (44, 12), (45, 13), (46, 14), (47, 15), (48, 16), (49, 17), (50, 18), (51, 19), (0, 20)], [(32, 0), (33, 1), (34, 2), (35, 3), (36, 4), (39, 7), (40, 8), (41, 9), (42, 10), (43, 11), (44, 12), (45, 13), (46, 14), (47, 15), (48, 16), (49, 17), (50, 18), (51, 19), (0, 20)], [(32, 0), (33, 1), (34, 2), (35, 3), (36, 4), (37, 5), (39, 7), (41, 9), (42, 10), (43, 11), (44, 12), (45, 13), (46, 14), (47, 15), (48, 16), (49, 17), (50, 18), (51, 19), (0, 20)], [(32, 0), (33, 1), (34, 2), (35, 3), (36, 4), (37, 5), (38, 6), (41, 9), (42, 10), (43, 11), (44, 12), (45, 13), (46, 14), (47, 15), (48, 16), (49, 17), (50, 18), (51, 19), (0, 20)], [(32, 0), (33, 1), (34, 2), (35, 3), (36, 4), (37, 5), (38, 6), (39, 7), (42, 10), (43, 11), (44, 12), (45, 13), (46, 14), (47, 15), (48, 16), (49, 17), (50, 18), (51, 19), (0, 20)], [(32, 0), (33, 1), (34, 2), (35, 3), (36, 4), (37, 5), (38, 6), (39, 7), (40, 8), (43, 11), (44, 12), (45, 13), (46, 14), (47, 15), (48, 16), (49, 17), (50, 18), (51, 19), (0, 20)], [(32, 0), (33, 1), (34, 2), (35, 3), (36, 4), (37, 5), (38, 6), (39, 7), (40, 8), (41, 9), (48, 16), (49, 17), (50, 18), (51, 19), (0, 20)], [(32, 0), (33, 1), (34, 2), (35, 3), (36, 4), (37, 5), (38, 6), (39, 7), (40, 8), (41, 9), (42, 10), (45, 13), (46, 14), (47, 15), (48, 16), (49, 17), (50, 18), (51, 19), (0, 20)], [(32, 0), (33, 1), (34, 2), (35, 3), (36, 4), (37, 5), (38, 6), (39, 7), (40, 8), (41, 9), (42, 10), (43, 11), (45, 13), (47, 15), (48, 16), (49, 17), (50, 18), (51, 19), (0, 20)], [(32, 0), (33, 1), (34, 2), (35, 3), (36, 4), (37, 5), (38, 6), (39, 7), (40, 8), (41, 9), (42, 10), (43, 11), (44, 12), (47, 15), (48, 16), (49, 17), (50, 18), (51, 19), (0, 20)], [(32, 0), (33, 1), (34, 2), (35, 3), (36, 4), (37, 5), (38, 6), (39, 7), (40, 8), (41, 9), (42, 10), (43, 11), (44, 12), (45, 13), (48, 16), (49, 17), (50, 18), (51, 19), (0, 20)], [(32, 0), (33, 1), (34, 2), (35, 3), (36, 4), (37, 5), (38, 6), (39, 7), (40, 8), (41, 9), (42, 10), (43, 11), (44, 12), (45, 13), (46, 14), (49, 17), (50, 18), (51, 19), (0, 20)], [(32, 0), (33, 1), (34, 2), (35, 3), (36, 4), (37, 5), (38, 6), (39, 7), (40, 8), (41, 9), (42, 10), (43, 11), (44, 12), (45, 13), (46, 14), (47, 15), (0, 20)], [(32, 0), (33, 1), (34, 2), (35, 3), (36, 4), (37, 5), (38, 6), (39, 7), (40, 8), (41, 9), (42, 10), (43, 11), (44, 12), (45, 13), (46, 14), (47, 15), (48, 16), (51, 19), (0, 20)], [(32, 0), (33, 1), (34, 2), (35, 3), (36, 4), (37, 5), (38, 6), (39, 7), (40, 8), (41, 9), (42, 10), (43, 11), (44, 12), (45, 13), (46, 14), (47, 15), (48, 16), (49, 17), (0, 20)], [(32, 0), (33, 1), (34, 2), (35, 3), (36, 4), (37, 5), (38, 6), (39, 7), (40, 8), (41, 9), (42, 10), (43, 11), (44, 12), (45, 13), (46, 14), (47, 15), (48, 16), (49, 17), (50, 18)], [(32, 0), (33, 1), (34, 2), (35, 3), (36, 4), (37, 5), (38, 6), (39, 7), (40, 8), (41, 9), (42, 10), (43, 11), (44, 12), (45, 13), (46, 14), (47, 15), (48, 16), (49, 17), (50, 18), (51, 19)]] [(32, 0), (33, 1), (34, 2), (35, 3), (36, 4), (37, 5), (38, 6), (39, 7), (40, 8), (41, 9), (42, 10), (43, 11), (44, 12), (45, 13), (46, 14), (47, 15), (48, 16), (49, 17), (50, 18), (51, 19), (0, 20)]
    [Is (.agg #[.int .i64 5, .int .i64 1, .int .u64 0]), fun v w => ∃ g, v = .slice (some ⟨g, 0, none⟩) 1 1 ∧ w.heap[g]? = some (.cells #[.int .i64 5, .int .i64 1, .int .u64 0] 28), Is (.agg #[.int .i64 0, .int .i64 0, .int .u64 0]), Is (.bool true), Is (.bool true), Is (.agg #[.int .i64 5, .int .i64 1, .int .u64 0]), fun v w => ∃ g, v = .slice (some ⟨g, 0, none⟩) 1 1 ∧ w.heap[g]? = some (.cells #[.int .i64 5, .int .i64 1, .int .u64 0] 28), Is (.agg #[.int .i64 0, .int .i64 0, .int .u64 0]), Is (.bool true), Is (.bool true), Is (.bool true), Is (.agg #[.int .i64 5, .int .i64 1, .int .u64 5]), fun v w => ∃ g, v = .slice (some ⟨g, 0, none⟩) 1 1 ∧ w.heap[g]? = some (.cells #[.int .i64 5, .int .i64 1, .int .u64 5] 28), Is (.agg #[.int .i64 0, .int .i64 0, .int .u64 0]), Is (.bool true), Is (.bool true), Is (.bool true), Is (.agg #[.int .i64 0, .int .i64 0, .int .u64 0]), Is (.bool true), Is (.bool true), Is (.bool true)]
    (by kernel_rfl) Grew.trans Grew.refl (Grew.refl _).drew (by kernel_rfl) ⟨is_st, slice1_st, is_st, is_st, is_st, is_st, slice1_st, is_st, is_st, is_st, is_st, is_st, slice1_st, is_st, is_st, is_st, is_st, is_st, is_st, is_st, is_st, trivial⟩ ⟨?_, ?_, ?_, ?_, ?_, ?_, ?_, ?_, ?_, ?_, ?_, ?_, ?_, ?_, ?_, ?_, ?_, ?_, ?_, ?_, ?_, trivial⟩ rfl ?_
  · intro y w2 hG hD K hK
    simp only [fillL, Act.put, List.setIfInBounds_toArray, List.set_cons_zero, List.set_cons_succ, List.getD_cons_zero, List.getD_cons_succ, Is] at hK ⊢
    refine ite_yes (by rfl) ?_
    go_simp
    refine (text17_any 0 _).mono ?_
    rintro r w3 ⟨rfl, hg⟩
    exact hK _ _ _ rfl hg rfl
  · intro y w2 hG hD K hK
    simp only [depsH, List.getD_cons_zero, List.getD_cons_succ, Is, and_true] at hD
    have h0 := hD
    clear hD
    simp only [fillL, Act.put, List.setIfInBounds_toArray, List.set_cons_zero, List.set_cons_succ, List.getD_cons_zero, List.getD_cons_succ, Is] at hK ⊢
    rw [h0] at hK ⊢
    clear h0
    refine ite_yes (by rfl) ?_
    go_simp
    exact hK _ _ _ rfl ((Grew.refl _).alloc _) ⟨_, rfl, heap_alloc_new _ _⟩
  · intro y w2 hG hD K hK
    have dz0 := hG.cell z0
    have dz1 := hG.cell z1
    have dz2 := hG.cell z2
    simp only [fillL, Act.put, List.setIfInBounds_toArray, List.set_cons_zero, List.set_cons_succ, List.getD_cons_zero, List.getD_cons_succ, Is] at hK ⊢
    refine ite_yes (by rfl) ?_
    go_simp
    exact hK _ _ _ rfl (Grew.refl _) rfl
  · intro y w2 hG hD K hK
    simp only [depsH, List.getD_cons_zero, List.getD_cons_succ, Is, and_true] at hD
    have h1 := hD.1
    have h2 := hD.2
    clear hD
    simp only [fillL, Act.put, List.setIfInBounds_toArray, List.set_cons_zero, List.set_cons_succ, List.getD_cons_zero, List.getD_cons_succ, Is] at hK ⊢
    rw [h2] at hK ⊢
    clear h2
    refine ite_yes (by rfl) ?_
    refine Exists.elim h1 fun g h => ?_
    have hs := h.1
    have hh := h.2
    clear h h1
    rw [hs] at hK ⊢
    go_simp
    refine (puts_at aB eB 5 0 (0, 0, 0) 20 g 1 [(5, 1, 0)] _ rfl hh (by decide) (by decide) puts5).mono ?_
    rintro r w3 ⟨rfl, hg⟩
    exact hK _ _ _ rfl hg rfl
  · intro y w2 hG hD K hK
    simp only [depsH, List.getD_cons_zero, List.getD_cons_succ, Is, and_true] at hD
    have h3 := hD
    clear hD
    simp only [fillL, Act.put, List.setIfInBounds_toArray, List.set_cons_zero, List.set_cons_succ, List.getD_cons_zero, List.getD_cons_succ, Is] at hK ⊢
    rw [h3] at hK ⊢
    clear h3
    refine ite_yes (by rfl) ?_
    go_simp
    exact hK _ _ _ rfl (Grew.refl _) rfl
  · intro y w2 hG hD K hK
    simp only [depsH, List.getD_cons_zero, List.getD_cons_succ, Is, and_true] at hD
    have h4 := hD
    clear hD
    simp only [fillL, Act.put, List.setIfInBounds_toArray, List.set_cons_zero, List.set_cons_succ, List.getD_cons_zero, List.getD_cons_succ, Is] at hK ⊢
    rw [h4] at hK ⊢
    clear h4
    refine ite_yes (by rfl) ?_
    go_simp
    refine (text17_any 0 _).mono ?_
    rintro r w3 ⟨rfl, hg⟩
    exact hK _ _ _ rfl hg rfl
  · intro y w2 hG hD K hK
    simp only [depsH, List.getD_cons_zero, List.getD_cons_succ, Is, and_true] at hD
    have h4 := hD.1
    have h5 := hD.2
    clear hD
    simp only [fillL, Act.put, List.setIfInBounds_toArray, List.set_cons_zero, List.set_cons_succ, List.getD_cons_zero, List.getD_cons_succ, Is] at hK ⊢
    rw [h4, h5] at hK ⊢
    clear h4 h5
    refine ite_yes (by rfl) ?_
    go_simp
    exact hK _ _ _ rfl ((Grew.refl _).alloc _) ⟨_, rfl, heap_alloc_new _ _⟩
  · intro y w2 hG hD K hK
    simp only [depsH, List.getD_cons_zero, List.getD_cons_succ, Is, and_true] at hD
    have h4 := hD
    clear hD
    have dz0 := hG.cell z0
    have dz1 := hG.cell z1
    have dz2 := hG.cell z2
    simp only [fillL, Act.put, List.setIfInBounds_toArray, List.set_cons_zero, List.set_cons_succ, List.getD_cons_zero, List.getD_cons_succ, Is] at hK ⊢
    rw [h4] at hK ⊢
    clear h4
    refine ite_yes (by rfl) ?_
    go_simp
    exact hK _ _ _ rfl (Grew.refl _) rfl
  · intro y w2 hG hD K hK
    simp only [depsH, List.getD_cons_zero, List.getD_cons_succ, Is, and_true] at hD
    have h4 := hD.1
    have h6 := hD.2.1
    have h7 := hD.2.2
    clear hD
    simp only [fillL, Act.put, List.setIfInBounds_toArray, List.set_cons_zero, List.set_cons_succ, List.getD_cons_zero, List.getD_cons_succ, Is] at hK ⊢
    rw [h4, h7] at hK ⊢
    clear h4 h7
    refine ite_yes (by rfl) ?_
    refine Exists.elim h6 fun g h => ?_
    have hs := h.1
    have hh := h.2
    clear h h6
    rw [hs] at hK ⊢
    go_simp
    refine (puts_at aB eB 1 0 (0, 0, 0) 60 g 1 [(5, 1, 0)] _ rfl hh (by decide) (by decide) puts6).mono ?_
    rintro r w3 ⟨rfl, hg⟩
    exact hK _ _ _ rfl hg rfl
  · intro y w2 hG hD K hK
    simp only [depsH, List.getD_cons_zero, List.getD_cons_succ, Is, and_true] at hD
    have h4 := hD.1
    have h8 := hD.2
    clear hD
    simp only [fillL, Act.put, List.setIfInBounds_toArray, List.set_cons_zero, List.set_cons_succ, List.getD_cons_zero, List.getD_cons_succ, Is] at hK ⊢
    rw [h4, h8] at hK ⊢
    clear h4 h8
    refine ite_yes (by rfl) ?_
    go_simp
    exact hK _ _ _ rfl (Grew.refl _) rfl
  · intro y w2 hG hD K hK
    simp only [depsH, List.getD_cons_zero, List.getD_cons_succ, Is, and_true] at hD
    have h9 := hD
    clear hD
    simp only [fillL, Act.put, List.setIfInBounds_toArray, List.set_cons_zero, List.set_cons_succ, List.getD_cons_zero, List.getD_cons_succ, Is] at hK ⊢
    rw [h9] at hK ⊢
    clear h9
    refine ite_yes (by rfl) ?_
    go_simp
    exact hK _ _ _ rfl (Grew.refl _) rfl
  · intro y w2 hG hD K hK
    simp only [depsH, List.getD_cons_zero, List.getD_cons_succ, Is, and_true] at hD
    have h10 := hD
    clear hD
    simp only [fillL, Act.put, List.setIfInBounds_toArray, List.set_cons_zero, List.set_cons_succ, List.getD_cons_zero, List.getD_cons_succ, Is] at hK ⊢
    rw [h10] at hK ⊢
    clear h10
    refine ite_yes (by rfl) ?_
    go_simp
    refine (text17_any 5 _).mono ?_
    rintro r w3 ⟨rfl, hg⟩
    exact hK _ _ _ rfl hg rfl
  · intro y w2 hG hD K hK
    simp only [depsH, List.getD_cons_zero, List.getD_cons_succ, Is, and_true] at hD
    have h10 := hD.1
    have h11 := hD.2
    clear hD
    simp only [fillL, Act.put, List.setIfInBounds_toArray, List.set_cons_zero, List.set_cons_succ, List.getD_cons_zero, List.getD_cons_succ, Is] at hK ⊢
    rw [h10, h11] at hK ⊢
    clear h10 h11
    refine ite_yes (by rfl) ?_
    go_simp
    exact hK _ _ _ rfl ((Grew.refl _).alloc _) ⟨_, rfl, heap_alloc_new _ _⟩
  · intro y w2 hG hD K hK
    simp only [depsH, List.getD_cons_zero, List.getD_cons_succ, Is, and_true] at hD
    have h10 := hD
    clear hD
    have dz0 := hG.cell z0
    have dz1 := hG.cell z1
    have dz2 := hG.cell z2
    simp only [fillL, Act.put, List.setIfInBounds_toArray, List.set_cons_zero, List.set_cons_succ, List.getD_cons_zero, List.getD_cons_succ, Is] at hK ⊢
    rw [h10] at hK ⊢
    clear h10
    refine ite_yes (by rfl) ?_
    go_simp
    exact hK _ _ _ rfl (Grew.refl _) rfl
  · intro y w2 hG hD K hK
    simp only [depsH, List.getD_cons_zero, List.getD_cons_succ, Is, and_true] at hD
    have h10 := hD.1
    have h12 := hD.2.1
    have h13 := hD.2.2
    clear hD
    simp only [fillL, Act.put, List.setIfInBounds_toArray, List.set_cons_zero, List.set_cons_succ, List.getD_cons_zero, List.getD_cons_succ, Is] at hK ⊢
    rw [h10, h13] at hK ⊢
    clear h10 h13
    refine ite_yes (by rfl) ?_
    refine Exists.elim h12 fun g h => ?_
    have hs := h.1
    have hh := h.2
    clear h h12
    rw [hs] at hK ⊢
    go_simp
    refine (puts_at aB eB (-1) 0 (0, 0, 0) 211 g 1 [(5, 1, 5)] _ rfl hh (by decide) (by decide) puts7).mono ?_
    rintro r w3 ⟨rfl, hg⟩
    exact hK _ _ _ rfl hg rfl
  · intro y w2 hG hD K hK
    simp only [depsH, List.getD_cons_zero, List.getD_cons_succ, Is, and_true] at hD
    have h10 := hD.1
    have h14 := hD.2
    clear hD
    simp only [fillL, Act.put, List.setIfInBounds_toArray, List.set_cons_zero, List.set_cons_succ, List.getD_cons_zero, List.getD_cons_succ, Is] at hK ⊢
    rw [h10, h14] at hK ⊢
    clear h10 h14
    refine ite_yes (by rfl) ?_
    go_simp
    exact hK _ _ _ rfl (Grew.refl _) rfl
  · intro y w2 hG hD K hK
    simp only [depsH, List.getD_cons_zero, List.getD_cons_succ, Is, and_true] at hD
    have h15 := hD
    clear hD
    simp only [fillL, Act.put, List.setIfInBounds_toArray, List.set_cons_zero, List.set_cons_succ, List.getD_cons_zero, List.getD_cons_succ, Is] at hK ⊢
    rw [h15] at hK ⊢
    clear h15
    refine ite_yes (by rfl) ?_
    go_simp
    exact hK _ _ _ rfl (Grew.refl _) rfl
  · intro y w2 hG hD K hK
    simp only [depsH, List.getD_cons_zero, List.getD_cons_succ, Is, and_true] at hD
    have h16 := hD
    clear hD
    have dz0 := hG.cell z0
    have dz1 := hG.cell z1
    have dz2 := hG.cell z2
    simp only [fillL, Act.put, List.setIfInBounds_toArray, List.set_cons_zero, List.set_cons_succ, List.getD_cons_zero, List.getD_cons_succ, Is] at hK ⊢
    rw [h16] at hK ⊢
    clear h16
    refine ite_yes (by rfl) ?_
    go_simp
    exact hK _ _ _ rfl (Grew.refl _) rfl
  · intro y w2 hG hD K hK
    simp only [depsH, List.getD_cons_zero, List.getD_cons_succ, Is, and_true] at hD
    have h16 := hD.1
    have h17 := hD.2
    clear hD
    simp only [fillL, Act.put, List.setIfInBounds_toArray, List.set_cons_zero, List.set_cons_succ, List.getD_cons_zero, List.getD_cons_succ, Is] at hK ⊢
    rw [h16, h17] at hK ⊢
    clear h16 h17
    refine ite_yes (by rfl) ?_
    go_simp
    refine (puts_true aB eB (-1) 2 (0, 0, 0) 20 (.slice none 0 0) [] _ ⟨none, 0, rfl, fun i x hx => by simp at hx⟩ (fun ad n c h => by cases h) (by decide) (by decide) (puts8 _)).mono ?_
    rintro r w3 ⟨rfl, hg⟩
    exact hK _ _ _ rfl hg rfl
  · intro y w2 hG hD K hK
    simp only [depsH, List.getD_cons_zero, List.getD_cons_succ, Is, and_true] at hD
    have h16 := hD.1
    have h18 := hD.2
    clear hD
    simp only [fillL, Act.put, List.setIfInBounds_toArray, List.set_cons_zero, List.set_cons_succ, List.getD_cons_zero, List.getD_cons_succ, Is] at hK ⊢
    rw [h16, h18] at hK ⊢
    clear h16 h18
    refine ite_yes (by rfl) ?_
    go_simp
    exact hK _ _ _ rfl (Grew.refl _) rfl
  · intro y w2 hG hD K hK
    simp only [depsH, List.getD_cons_zero, List.getD_cons_succ, Is, and_true] at hD
    have h19 := hD
    clear hD
    simp only [fillL, Act.put, List.setIfInBounds_toArray, List.set_cons_zero, List.set_cons_succ, List.getD_cons_zero, List.getD_cons_succ, Is] at hK ⊢
    rw [h19] at hK ⊢
    clear h19
    refine ite_yes (by rfl) ?_
    go_simp
    exact hK _ _ _ rfl (Grew.refl _) rfl
  · intro y w2 hG hF
    simp only [factsH, Is, and_true, Nat.reduceAdd] at hF
    have h0 := hF.1
    have h1 := hF.2.1
    have h2 := hF.2.2.1
    have h3 := hF.2.2.2.1
    have h4 := hF.2.2.2.2.1
    have h5 := hF.2.2.2.2.2.1
    have h6 := hF.2.2.2.2.2.2.1
    have h7 := hF.2.2.2.2.2.2.2.1
    have h8 := hF.2.2.2.2.2.2.2.2.1
    have h9 := hF.2.2.2.2.2.2.2.2.2.1
    have h10 := hF.2.2.2.2.2.2.2.2.2.2.1
    have h11 := hF.2.2.2.2.2.2.2.2.2.2.2.1
    have h12 := hF.2.2.2.2.2.2.2.2.2.2.2.2.1
    have h13 := hF.2.2.2.2.2.2.2.2.2.2.2.2.2.1
    have h14 := hF.2.2.2.2.2.2.2.2.2.2.2.2.2.2.1
    have h15 := hF.2.2.2.2.2.2.2.2.2.2.2.2.2.2.2.1
    have h16 := hF.2.2.2.2.2.2.2.2.2.2.2.2.2.2.2.2.1
    have h17 := hF.2.2.2.2.2.2.2.2.2.2.2.2.2.2.2.2.2.1
    have h18 := hF.2.2.2.2.2.2.2.2.2.2.2.2.2.2.2.2.2.2.1
    have h19 := hF.2.2.2.2.2.2.2.2.2.2.2.2.2.2.2.2.2.2.2.1
    have h20 := hF.2.2.2.2.2.2.2.2.2.2.2.2.2.2.2.2.2.2.2.2
    clear hF
    simp only [fillL, Act.put, List.setIfInBounds_toArray, List.set_cons_zero, List.set_cons_succ, List.getD_cons_zero, List.getD_cons_succ, Is]
    rw [h0, h2, h3, h4, h5, h7, h8, h9, h10, h11, h13, h14, h15, h16, h17, h18, h19, h20]
    clear h0 h2 h3 h4 h5 h7 h8 h9 h10 h11 h13 h14 h15 h16 h17 h18 h19 h20
    have HG9 := Lib.hid (HG.out.trans hG)
    clear hG
    go_wp2
    go_ret
    exact ⟨rfl, HG9.out⟩
end Go.Proofs.Ytaoflhddcbmacaa
