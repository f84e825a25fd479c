/-
  Package vec: Put's ways out ahead of the values.
-/
import Derived.Test.YtaoflhddcbmacaaVec5
import Derived.Laws.EntriesVeiled
namespace Go.Proofs.Ytaoflhddcbmacaa
open Go Go.ChangeShapes Go.WideShapes Go.ChangeAt Go.RowKit Go.Joins
open Go.Proofs.Ytaoflhddcbmacaa.Ft (V3 vV okV ValsAt inlineB legalB packF codeF typedF allF)
set_option linter.unusedVariables false
set_option linter.unusedSimpArgs false

set_option maxHeartbeats 1000000 in
theorem put_err (elem many : Int) {B : Nat} {w : World} {p : Nat} {o : Option Nat} {most : Int} (s : St) (lv : Value) (l : List V3) (h : BufAt B w p o s.1 most s.2) (hB : B ≤ w.heap.size) (hv : ValsAt w lv l) (hlen : l.length ≤ 1048576) (hs : s.2 ≠ 0) :
    Calls Try.prog 10 #[bptr p, .int .i64 elem, .int .i64 many, lv] w fun r w' => r = .returned (putV ((0, 0, 0), s.2)) ∧ TurnB B w w' p o most s := by
  have HB0 := Lib.hid h
  obtain ⟨a, c, rfl, hcell⟩ := hv
  clear h hcell
  go_enter Try.func10, Try.ntmps10
  go_wp2_with fail
  refine (err_any (HB0.out.grew ((Grew.refl w).alloc _))).mono ?_
  obtain ⟨e, he⟩ : ∃ e, e = s.2 := ⟨_, rfl⟩
  rw [← he] at hs ⊢
  rintro r w1 ⟨rfl, rfl⟩
  have HG : Hid (Grew w (w.alloc (.cells #[.int .i64 0, .int .i64 0, .int .u64 0] 28))) := (Grew.refl w).alloc _
  go_wp2
  refine bodyPost_ret (v := putV ((0, 0, 0), e)) ?_ rfl ⟨by rw [he], ?_⟩
  · simp [results, Try.results10, go_sem, putV, vV, he]
  · exact (TurnB.refl HB0.out).grew HG.out
theorem shaped_x (elem many : Int) (hkd : (typedF elem many).2 = false) (hne : ¬ (elem = -1 ∧ many = 0)) (w : World) : Calls Try.prog 23 #[.int .i64 elem, .int .i64 many] w fun r w' => r = .returned (.tuple #[.agg #[.int .i64 0, .bool false, .nilFunc, .nilFunc], .int .i64 20]) ∧ Grew w w' := by
  refine (shaped_ty elem many hne w).mono ?_
  rintro r w' ⟨rfl, hg, _⟩
  refine ⟨?_, hg⟩
  unfold shapeT
  rw [hkd]
  rfl
theorem shaped_g (elem many kd : Int) (hkd : typedF elem many = (kd, true)) (hm : 0 < many) (w : World) : Calls Try.prog 23 #[.int .i64 elem, .int .i64 many] w fun r w' => (∃ (a : Addr) (b : Bool) (c : Int), r = .returned (.tuple #[.agg #[.int .i64 kd, .bool b, fnv 43 #[.pointer (some a)], fnv 44 #[]], .int .i64 0])) ∧ Grew w w' := by
  refine (shaped_ty elem many (fun h => by omega) w).mono ?_
  rintro r w' ⟨rfl, hg, _⟩
  refine ⟨⟨⟨w.heap.size, 0, none⟩, many == 0, 0, ?_⟩, hg⟩
  unfold shapeT
  rw [hkd, if_pos rfl]
set_option maxHeartbeats 1000000 in
theorem put_no (elem many : Int) (hkd : (typedF elem many).2 = false) (hne : ¬ (elem = -1 ∧ many = 0)) {B : Nat} {w : World} {p : Nat} {o : Option Nat} {most : Int} (s : St) (lv : Value) (l : List V3) (h : BufAt B w p o s.1 most s.2) (hB : B ≤ w.heap.size) (hv : ValsAt w lv l) (hlen : l.length ≤ 1048576) (hs : s.2 = 0) :
    Calls Try.prog 10 #[bptr p, .int .i64 elem, .int .i64 many, lv] w fun r w' => r = .returned (putV ((0, 0, 0), 20)) ∧ TurnB B w w' p o most s := by
  have HB0 := Lib.hid h
  obtain ⟨a, c, rfl, hcell⟩ := hv
  clear h hcell
  go_enter Try.func10, Try.ntmps10
  go_wp2_with fail
  refine (err_any (HB0.out.grew ((Grew.refl w).alloc _))).mono ?_
  rw [hs]
  rintro r w1 ⟨rfl, rfl⟩
  go_wp2_with fail
  refine (shaped_x elem many hkd hne _).mono ?_
  clear hkd hne
  rintro r w1 ⟨rfl, hg⟩
  have hb : w1.heap[w.heap.size]? = some (.cells #[.int .i64 0, .int .i64 0, .int .u64 0] 28) := hg.heap (heap_alloc_new _ _)
  have HR := Lib.hid hb
  have HG0 : Hid (Grew w w1) := ((Grew.refl w).alloc _).trans hg
  clear hb hg
  go_wp2_with fail
  go_loopw [12, 13] (fun e i wr => i = .int .i64 0 ∧ e = .int .i64 20 ∧ Hid (Grew w wr ∧ wr.heap[w.heap.size]? = some (.cells #[.int .i64 0, .int .i64 0, .int .u64 0] 28))) (fun _ _ _ => 0)
  case atStart =>
    refine ⟨rfl, rfl, ?_⟩
    show _ ∧ _
    exact ⟨HG0.out.alloc _, ((Grew.refl w1).alloc _).heap HR.out⟩
  case round =>
    obtain ⟨rfl, rfl, HW⟩ := hrel
    obtain ⟨hgw, hrow⟩ := HW.out
    have HG := Lib.hid hgw
    clear hgw HW
    have f0 := row_frozen hrow 0
    have f1 := row_frozen hrow 1
    have f2 := row_frozen hrow 2
    have c0 := row_cell hrow 0 _ rfl
    have c1 := row_cell hrow 1 _ rfl
    have c2 := row_cell hrow 2 _ rfl
    clear hrow
    go_wp2
    all_goals
      refine bodyPost_ret (v := putV ((0, 0, 0), 20)) ?_ rfl ⟨rfl, ?_⟩
      · simp [results, Try.results10, go_sem, c0, c1, c2, putV, vV]
      · exact (TurnB.refl HB0.out).grew ((((HG.out).setCell (Nat.le_refl _) _).setCell (Nat.le_refl _) _).setCell (Nat.le_refl _) _)
set_option maxHeartbeats 1000000 in
theorem put_bad (elem many kd : Int) (hkd : typedF elem many = (kd, true)) (hm : 0 < many) {B : Nat} {w : World} {p : Nat} {o : Option Nat} {most : Int} (s : St) (lv : Value) (l : List V3) (h : BufAt B w p o s.1 most s.2) (hB : B ≤ w.heap.size) (hv : ValsAt w lv l) (hlen : l.length ≤ 1048576) (hlm : (l.length : Int) ≠ many) (hs : s.2 = 0) :
    Calls Try.prog 10 #[bptr p, .int .i64 elem, .int .i64 many, lv] w fun r w' => r = .returned (putV ((0, 0, 0), 2)) ∧ TurnB B w w' p o most s := by
  have HB0 := Lib.hid h
  obtain ⟨a, c, rfl, hcell⟩ := hv
  clear h hcell
  go_enter Try.func10, Try.ntmps10
  go_wp2_with fail
  refine (err_any (HB0.out.grew ((Grew.refl w).alloc _))).mono ?_
  rw [hs]
  rintro r w1 ⟨rfl, rfl⟩
  go_wp2_with fail
  refine (shaped_g elem many kd hkd hm _).mono ?_
  clear hkd
  rintro r w1 ⟨⟨x1, x2, x3, rfl⟩, hg⟩
  have hb : w1.heap[w.heap.size]? = some (.cells #[.int .i64 0, .int .i64 0, .int .u64 0] 28) := hg.heap (heap_alloc_new _ _)
  have HR := Lib.hid hb
  have HG0 : Hid (Grew w w1) := ((Grew.refl w).alloc _).trans hg
  clear hb hg
  go_wp2_with fail
  go_loopw [12, 13] (fun e i wr => i = .int .i64 0 ∧ e = .int .i64 2 ∧ Hid (Grew w wr ∧ wr.heap[w.heap.size]? = some (.cells #[.int .i64 0, .int .i64 0, .int .u64 0] 28))) (fun _ _ _ => 0)
  case atStart =>
    refine ⟨rfl, rfl, ?_⟩
    show _ ∧ _
    exact ⟨HG0.out.alloc _, ((Grew.refl w1).alloc _).heap HR.out⟩
  case round =>
    obtain ⟨rfl, rfl, HW⟩ := hrel
    obtain ⟨hgw, hrow⟩ := HW.out
    have HG := Lib.hid hgw
    clear hgw HW
    have f0 := row_frozen hrow 0
    have f1 := row_frozen hrow 1
    have f2 := row_frozen hrow 2
    have c0 := row_cell hrow 0 _ rfl
    have c1 := row_cell hrow 1 _ rfl
    have c2 := row_cell hrow 2 _ rfl
    clear hrow
    go_wp2
    all_goals
      refine bodyPost_ret (v := putV ((0, 0, 0), 2)) ?_ rfl ⟨rfl, ?_⟩
      · simp [results, Try.results10, go_sem, c0, c1, c2, putV, vV]
      · exact (TurnB.refl HB0.out).grew ((((HG.out).setCell (Nat.le_refl _) _).setCell (Nat.le_refl _) _).setCell (Nat.le_refl _) _)
end Go.Proofs.Ytaoflhddcbmacaa
