/-
  Texts of the proof, part 25 of 39.
-/
import Derived.Test.YtjnpcddbgfmpcaaGreatPAX
import Derived.Test.YtjnpcddbgfmpcaaGreatPAQ
import Derived.Laws.EntriesVeiled

/-
  Package vec: tags.
-/
namespace Go.Proofs.YtjnpcddbgfmpcaaGreat
open Go Go.ChangeShapes Go.WideShapes Go.ChangeAt Go.RowKit Go.Joins
open Go.Proofs.YtjnpcddbgfmpcaaGreat.Ft (V3 vV okV ValsAt inlineB legalB packF codeF)
set_option linter.unusedVariables false
set_option linter.unusedSimpArgs false
def tagB (x : Int) (v : V3) : UInt8 := UInt8.ofNat (packF v.1 (if inlineB v.1 then x else v.2.1)).1.toNat
def tagS (most x : Int) (s : St) (v : V3) : St := putS most (bytesS [⟨#[tagB x v]⟩]) s
def tagsS (most x : Int) (l : List V3) (s : St) : St := l.foldl (tagS most x) s
theorem tagsS_le {most x : Int} : ∀ (l : List V3) {s : St}, (s.1.length : Int) ≤ most → ((tagsS most x l s).1.length : Int) ≤ most
  | [], s, h => h
  | v :: r, s, h => tagsS_le r (putS_le h)
theorem tagsS_snoc (most x : Int) (l : List V3) (s : St) (k : Nat) (h : k < l.length) : tagsS most x (l.take (k + 1)) s = tagS most x (tagsS most x (l.take k) s) l[k] := by
  unfold tagsS
  rw [List.take_succ_eq_append_getElem h, List.foldl_append]; rfl
theorem pack_range (t x : Int) : 0 ≤ (packF t x).1 ∧ (packF t x).1 ≤ 255 := by
  unfold packF
  split
  · rename_i h
    have := Ft.legal_range h
    rcases Ft.codeF_cases x with e | e | e | e | e <;> rw [e] <;> simp <;> omega
  · simp
set_option maxRecDepth 100000 in
set_option maxHeartbeats 2000000 in
theorem tags_any {B : Nat} {w : World} {p : Nat} {o : Option Nat} {most : Int} (s : St) (x : Int) (lv : Value) (l : List V3) (h : BufAt B w p o s.1 most s.2) (hB : B ≤ w.heap.size) (hl : (s.1.length : Int) ≤ most) (hm1 : most ≤ 1048576)
    (hv : ValsAt w lv l) (hlen : l.length ≤ 1048576) (hap : ∀ ad n c, lv = .slice (some ad) n c → ¬ Own2 p o ad.block) :
    Calls Tryz.prog 218 #[bptr p, .int .i64 x, lv] w fun r w' => r = .returned (.tuple #[]) ∧ TurnB B w w' p o most (tagsS most x l s) := by
  have HB0 := Lib.hid h
  have HA := Lib.hid hap
  obtain ⟨a, c, rfl, hcell⟩ := hv
  have HC := Lib.hid hcell
  clear h hap hcell
  go_enter Tryz.func218, Tryz.ntmps218
  go_wp2_with fail
  go_loopw [13] (fun i wr => ∃ k : Nat, k ≤ l.length ∧ i = .int .i64 k ∧ Hid (TurnB B w wr p o most (tagsS most x (l.take k) s))) (fun i _ => l.length - (intOf i).toNat)
  case atStart => exact ⟨0, Nat.zero_le _, rfl, TurnB.refl HB0.out⟩
  case round =>
    obtain ⟨k, hk, rfl, HW⟩ := hrel
    by_cases hlt : k < l.length
    · obtain ⟨bl, off, rfl, q0, q1, q2⟩ := HC.out k l[k] (List.getElem?_eq_getElem hlt)
      have hnb : ¬ Own2 p o bl := HA.out ⟨bl, off, none⟩ _ _ rfl
      obtain ⟨o1, k1, k2, k3⟩ := HW.out
      have d0 := k3.cell q0 hnb
      have d1 := k3.cell q1 hnb
      have d2 := k3.cell q2 hnb
      have HSN := Lib.hid (tagsS_snoc most x l s k hlt)
      have HLE := Lib.hid (tagsS_le (x := x) (l.take k) hl)
      have hBr : B ≤ wr.heap.size := Nat.le_trans hB k3.size
      have HBR := Lib.hid hBr
      have HB1 := Lib.hid k1
      have HK := Lib.hid (And.intro k2 k3)
      generalize tagsS most x (l.take k) s = s0 at *
      generalize l[k] = v at *
      obtain ⟨ty, wd, vn⟩ := v
      simp only at d0 d1 d2
      clear k1 k2 k3 q0 q1 q2 HW hBr
      by_cases hi : inlineB ty = true
      · go_wp2_with fail
        refine (Ft.inline_any ty _).mono ?_
        rw [hi]
        rintro r w1 ⟨rfl, hg⟩
        have c0 : w1.cell? ⟨wr.heap.size, 0, none⟩ = some (.int .i64 ty) := hg.cell (by go_simp)
        have HG1 := Lib.hid (((Grew.refl wr).alloc _).trans hg)
        clear hg
        go_wp2_with fail
        refine (Ft.pack_any ty x _).mono ?_
        rintro r w2 ⟨rfl, hg⟩
        have HG2 := Lib.hid (HG1.out.trans hg)
        have HTB : Hid (tagB x (ty, wd, vn) = UInt8.ofNat (packF ty x).1.toNat) := by show _ = _; simp [tagB, hi]
        have hpk := pack_range ty x
        have hb8 : (packF ty x).1 = ((UInt8.ofNat (packF ty x).1.toNat).toNat : Int) := by rw [UInt8.toNat_ofNat']; omega
        have HSZ := Lib.hid HG2.out.size
        generalize packF ty x = pk at *
        clear hg c0 hpk
        have hst := str_of_bytes (one_byte w2 pk.1 (UInt8.ofNat pk.1.toNat) hb8)
        clear hb8
        go_wp2_with fail
        refine (textNew1 s0 ⟨#[UInt8.ofNat pk.1.toNat]⟩ _ (by simp) (HB1.out.grew (HG2.out.alloc _)) (Nat.le_trans HBR.out (HG2.out.alloc _).size) HLE.out hm1 (show (1 : Nat) + 0 ≤ 1073741824 by decide)).mono ?_
        rintro r w5 ⟨rfl, ht⟩
        have HT := Lib.hid (TurnB.after (HG2.out.alloc _) ht)
        clear ht hst
        go_wp2
        go_roundw
        case rel =>
          have hT := HT.out
          rw [← HTB.out] at hT
          have e : tagsS most x (l.take (k + 1)) s = putS most (bytesS [⟨#[tagB x (ty, wd, vn)]⟩]) s0 := HSN.out
          rw [← e] at hT
          obtain ⟨o2, t1, t2, t3⟩ := hT
          exact ⟨k + 1, by omega, by go_num, o2, t1, HK.out.1.trans t2 HK.out.2.size, HK.out.2.own HK.out.1 t3⟩
        case measure => simp [intOf]; omega
      · have hi' : inlineB ty = false := by simpa using hi
        go_wp2_with fail
        refine (Ft.inline_any ty _).mono ?_
        rw [hi']
        rintro r w1 ⟨rfl, hg⟩
        have c0 : w1.cell? ⟨wr.heap.size, 0, none⟩ = some (.int .i64 ty) := hg.cell (by go_simp)
        have HG1 := Lib.hid (((Grew.refl wr).alloc _).trans hg)
        clear hg
        go_wp2_with fail
        refine (Ft.pack_any ty wd _).mono ?_
        rintro r w2 ⟨rfl, hg⟩
        have HG2 := Lib.hid (HG1.out.trans hg)
        have HTB : Hid (tagB x (ty, wd, vn) = UInt8.ofNat (packF ty wd).1.toNat) := by show _ = _; simp [tagB, hi']
        have hpk := pack_range ty wd
        have hb8 : (packF ty wd).1 = ((UInt8.ofNat (packF ty wd).1.toNat).toNat : Int) := by rw [UInt8.toNat_ofNat']; omega
        have HSZ := Lib.hid HG2.out.size
        generalize packF ty wd = pk at *
        clear hg c0 hpk
        have hst := str_of_bytes (one_byte w2 pk.1 (UInt8.ofNat pk.1.toNat) hb8)
        clear hb8
        go_wp2_with fail
        refine (textNew1 s0 ⟨#[UInt8.ofNat pk.1.toNat]⟩ _ (by simp) (HB1.out.grew (HG2.out.alloc _)) (Nat.le_trans HBR.out (HG2.out.alloc _).size) HLE.out hm1 (show (1 : Nat) + 0 ≤ 1073741824 by decide)).mono ?_
        rintro r w5 ⟨rfl, ht⟩
        have HT := Lib.hid (TurnB.after (HG2.out.alloc _) ht)
        clear ht hst
        go_wp2
        go_roundw
        case rel =>
          have hT := HT.out
          rw [← HTB.out] at hT
          have e : tagsS most x (l.take (k + 1)) s = putS most (bytesS [⟨#[tagB x (ty, wd, vn)]⟩]) s0 := HSN.out
          rw [← e] at hT
          obtain ⟨o2, t1, t2, t3⟩ := hT
          exact ⟨k + 1, by omega, by go_num, o2, t1, HK.out.1.trans t2 HK.out.2.size, HK.out.2.own HK.out.1 t3⟩
        case measure => simp [intOf]; omega
    · have e : k = l.length := by omega
      have HF : Hid (TurnB B w wr p o most (tagsS most x l s)) := by
        have := HW.out
        rw [e, List.take_length] at this
        exact this
      clear HW
      go_wp2
      go_end0
      exact ⟨rfl, HF.out⟩
def takesE (elem : Int) (v : V3) : Int := if legalB v.1 && decide (v.1 ≠ elem) then 60 else legalE v
set_option maxHeartbeats 1000000 in
theorem takes_any (elem : Int) (v : V3) (pa : Addr) (w : World) (he : w.cell? pa = some (.int .i64 elem)) : Calls Tryz.prog 220 #[vV v, .pointer (some pa)] w fun r w' => r = .returned (.int .i64 (takesE elem v)) ∧ Grew w w' := by
  obtain ⟨ty, wd, n⟩ := v
  have H0 : Hid (Grew w (w.alloc (.cells #[.int .i64 ty, .int .i64 wd, .int .u64 n] 92))) := (Grew.refl w).alloc _
  show Calls Tryz.prog 220 #[.agg #[.int .i64 ty, .int .i64 wd, .int .u64 n], .pointer (some pa)] w _
  go_enter Tryz.func220, Tryz.ntmps220
  go_wp2_with fail
  refine (Ft.legal_any ty _).mono ?_
  by_cases hl : legalB ty = true
  · rw [hl]
    rintro r w1 ⟨rfl, hg⟩
    have c0 : w1.cell? ⟨w.heap.size, 0, none⟩ = some (.int .i64 ty) := hg.cell (by go_simp)
    have c1 : w1.cell? ⟨w.heap.size, 1, none⟩ = some (.int .i64 wd) := hg.cell (by go_simp)
    have c2 : w1.cell? ⟨w.heap.size, 2, none⟩ = some (.int .u64 n) := hg.cell (by go_simp)
    have ce : w1.cell? pa = some (.int .i64 elem) := hg.cell (H0.out.cell he)
    have HG := Lib.hid (H0.out.trans hg)
    clear hg
    by_cases hne : ty = elem
    · have HE : Hid (takesE elem (ty, wd, n) = legalE (ty, wd, n)) := by show _ = _; simp [takesE, hne]
      subst hne
      go_wp2_with fail
      refine (legalV_any (ty, wd, n) _).mono ?_
      rintro r w2 ⟨rfl, hg⟩
      have HG2 := Lib.hid (HG.out.trans hg)
      clear hg
      go_wp2
      go_ret
      exact ⟨by rw [HE.out]; rfl, HG2.out⟩
    · have HE : Hid (takesE elem (ty, wd, n) = 60) := by show _ = _; simp [takesE, hl, hne]
      go_wp2
      go_ret
      exact ⟨by rw [HE.out]; rfl, HG.out⟩
  · have hl' : legalB ty = false := by simpa using hl
    rw [hl']
    rintro r w1 ⟨rfl, hg⟩
    have c0 : w1.cell? ⟨w.heap.size, 0, none⟩ = some (.int .i64 ty) := hg.cell (by go_simp)
    have c1 : w1.cell? ⟨w.heap.size, 1, none⟩ = some (.int .i64 wd) := hg.cell (by go_simp)
    have c2 : w1.cell? ⟨w.heap.size, 2, none⟩ = some (.int .u64 n) := hg.cell (by go_simp)
    have HE : Hid (takesE elem (ty, wd, n) = legalE (ty, wd, n)) := by show _ = _; simp [takesE, hl']
    have HG := Lib.hid (H0.out.trans hg)
    clear hg
    go_wp2_with fail
    refine (legalV_any (ty, wd, n) _).mono ?_
    rintro r w2 ⟨rfl, hg⟩
    have HG2 := Lib.hid (HG.out.trans hg)
    clear hg
    go_wp2
    go_ret
    exact ⟨by rw [HE.out]; rfl, HG2.out⟩
abbrev fnv (k : Nat) (cap : Array Value) : Value := .func (.func k) #[] cap
theorem shaped_un (w : World) : Calls Tryz.prog 171 #[.int .i64 (-1), .int .i64 0] w fun r w' => r = .returned (.tuple #[.agg #[.int .i64 10, .bool true, fnv 217 #[], fnv 218 #[]], .int .i64 0]) ∧ Grew w w' := by
  go_enter Tryz.func171, Tryz.ntmps171
  go_wp2
  refine bodyPost_ret (v := .tuple #[.agg #[.int .i64 10, .bool true, fnv 217 #[], fnv 218 #[]], .int .i64 0]) ?_ rfl ⟨rfl, ?_⟩
  · simp [results, Tryz.results171, go_sem, fnv]
  · exact ((Grew.refl w).alloc _).alloc _
end Go.Proofs.YtjnpcddbgfmpcaaGreat

/-
  Package vec: shaped (typed), Put.
-/
namespace Go.Proofs.YtjnpcddbgfmpcaaGreat
open Go Go.ChangeShapes Go.WideShapes Go.ChangeAt Go.RowKit Go.Joins
open Go.Proofs.YtjnpcddbgfmpcaaGreat.Ft (V3 vV okV ValsAt inlineB legalB packF codeF typedF)
set_option linter.unusedVariables false
set_option linter.unusedSimpArgs false
def shapeT (elem many : Int) (n : Nat) : Value := if (typedF elem many).2 = true then .tuple #[.agg #[.int .i64 (typedF elem many).1, .bool (many == 0), fnv 220 #[.pointer (some ⟨n, 0, none⟩)], fnv 221 #[]], .int .i64 0] else .tuple #[.agg #[.int .i64 0, .bool false, .nilFunc, .nilFunc], .int .i64 20]
theorem shaped_ty (elem many : Int) (h : ¬ (elem = -1 ∧ many = 0)) (w : World) : Calls Tryz.prog 171 #[.int .i64 elem, .int .i64 many] w fun r w' => r = .returned (shapeT elem many w.heap.size) ∧ Grew w w' ∧ w'.cell? ⟨w.heap.size, 0, none⟩ = some (.int .i64 elem) ∧ w.heap.size < w'.heap.size := by
  unfold shapeT
  have HTY := fun w' => Ft.typed_any elem many w'
  generalize typedF elem many = tq at *
  obtain ⟨tt, tb⟩ := tq
  simp only at HTY
  have HY := Lib.hid HTY
  clear HTY
  by_cases he : elem = -1
  · have hm : ¬ many = 0 := fun x => h ⟨he, x⟩
    clear h
    subst he
    cases tb
    · go_enter Tryz.func171, Tryz.ntmps171
      go_wp2_with fail
      refine (HY.out _).mono ?_
      rintro r w1 ⟨rfl, hg⟩
      have c0 : w1.cell? ⟨w.heap.size, 0, none⟩ = some (.int .i64 (-1)) := hg.cell (by go_simp)
      have HG : Hid (Grew w w1) := (((Grew.refl w).alloc _).alloc _).trans hg
      have HSZ := hg.size
      have hb : w1.heap[w.heap.size + 1]? = some (.cells #[.int .i64 0, .bool false, .nilFunc, .nilFunc] 197) := hg.heap (by rw [show w.heap.size + 1 = (w.alloc (.cells #[.int .i64 (-1)] 3)).heap.size by simp]; exact heap_alloc_new _ _)
      have f4 := row_frozen hb 0
      have f5 := row_frozen hb 1
      have f6 := row_frozen hb 2
      have f7 := row_frozen hb 3
      clear hb
      have c4 : w1.cell? ⟨w.heap.size + 1, 0, none⟩ = some (.int .i64 0) := hg.cell (by go_simp)
      have c5 : w1.cell? ⟨w.heap.size + 1, 1, none⟩ = some (.bool false) := hg.cell (by go_simp)
      have c6 : w1.cell? ⟨w.heap.size + 1, 2, none⟩ = some .nilFunc := hg.cell (by go_simp)
      have c7 : w1.cell? ⟨w.heap.size + 1, 3, none⟩ = some .nilFunc := hg.cell (by go_simp)
      go_wp2
      refine bodyPost_ret (v := .tuple #[.agg #[.int .i64 0, .bool false, .nilFunc, .nilFunc], .int .i64 20]) ?_ rfl ⟨by simp, ?_, ?_, ?_⟩
      · simp [results, Tryz.results171, go_sem, fnv, c4, c5, c6, c7, hm]
      · exact (((HG.out.setCell (by simp) _).setCell (by simp) _).setCell (by simp) _).setCell (by simp) _
      · go_simp
      · simp at HSZ ⊢; omega
    · go_enter Tryz.func171, Tryz.ntmps171
      go_wp2_with fail
      refine (HY.out _).mono ?_
      rintro r w1 ⟨rfl, hg⟩
      have c0 : w1.cell? ⟨w.heap.size, 0, none⟩ = some (.int .i64 (-1)) := hg.cell (by go_simp)
      have HG : Hid (Grew w w1) := (((Grew.refl w).alloc _).alloc _).trans hg
      have HSZ := hg.size
      have hb : w1.heap[w.heap.size + 1]? = some (.cells #[.int .i64 0, .bool false, .nilFunc, .nilFunc] 197) := hg.heap (by rw [show w.heap.size + 1 = (w.alloc (.cells #[.int .i64 (-1)] 3)).heap.size by simp]; exact heap_alloc_new _ _)
      have f4 := row_frozen hb 0
      have f5 := row_frozen hb 1
      have f6 := row_frozen hb 2
      have f7 := row_frozen hb 3
      clear hb
      have c4 : w1.cell? ⟨w.heap.size + 1, 0, none⟩ = some (.int .i64 0) := hg.cell (by go_simp)
      have c5 : w1.cell? ⟨w.heap.size + 1, 1, none⟩ = some (.bool false) := hg.cell (by go_simp)
      have c6 : w1.cell? ⟨w.heap.size + 1, 2, none⟩ = some .nilFunc := hg.cell (by go_simp)
      have c7 : w1.cell? ⟨w.heap.size + 1, 3, none⟩ = some .nilFunc := hg.cell (by go_simp)
      go_wp2
      refine bodyPost_ret (v := .tuple #[.agg #[.int .i64 tt, .bool (many == 0), fnv 220 #[.pointer (some ⟨w.heap.size, 0, none⟩)], fnv 221 #[]], .int .i64 0]) ?_ rfl ⟨by simp [fnv, hm], ?_, ?_, ?_⟩
      · simp [results, Tryz.results171, go_sem, fnv, c4, c5, c6, c7, hm]
      · exact (((HG.out.setCell (by simp) _).setCell (by simp) _).setCell (by simp) _).setCell (by simp) _
      · go_simp
      · simp at HSZ ⊢; omega
  · clear h
    cases tb
    · go_enter Tryz.func171, Tryz.ntmps171
      go_wp2_with fail
      refine (HY.out _).mono ?_
      rintro r w1 ⟨rfl, hg⟩
      have c0 : w1.cell? ⟨w.heap.size, 0, none⟩ = some (.int .i64 elem) := hg.cell (by go_simp)
      have HG : Hid (Grew w w1) := (((Grew.refl w).alloc _).alloc _).trans hg
      have HSZ := hg.size
      have hb : w1.heap[w.heap.size + 1]? = some (.cells #[.int .i64 0, .bool false, .nilFunc, .nilFunc] 197) := hg.heap (by rw [show w.heap.size + 1 = (w.alloc (.cells #[.int .i64 elem] 3)).heap.size by simp]; exact heap_alloc_new _ _)
      have f4 := row_frozen hb 0
      have f5 := row_frozen hb 1
      have f6 := row_frozen hb 2
      have f7 := row_frozen hb 3
      clear hb
      have c4 : w1.cell? ⟨w.heap.size + 1, 0, none⟩ = some (.int .i64 0) := hg.cell (by go_simp)
      have c5 : w1.cell? ⟨w.heap.size + 1, 1, none⟩ = some (.bool false) := hg.cell (by go_simp)
      have c6 : w1.cell? ⟨w.heap.size + 1, 2, none⟩ = some .nilFunc := hg.cell (by go_simp)
      have c7 : w1.cell? ⟨w.heap.size + 1, 3, none⟩ = some .nilFunc := hg.cell (by go_simp)
      go_wp2
      refine bodyPost_ret (v := .tuple #[.agg #[.int .i64 0, .bool false, .nilFunc, .nilFunc], .int .i64 20]) ?_ rfl ⟨by simp, ?_, ?_, ?_⟩
      · simp [results, Tryz.results171, go_sem, fnv, c4, c5, c6, c7]
      · exact (((HG.out.setCell (by simp) _).setCell (by simp) _).setCell (by simp) _).setCell (by simp) _
      · go_simp
      · simp at HSZ ⊢; omega
    · go_enter Tryz.func171, Tryz.ntmps171
      go_wp2_with fail
      refine (HY.out _).mono ?_
      rintro r w1 ⟨rfl, hg⟩
      have c0 : w1.cell? ⟨w.heap.size, 0, none⟩ = some (.int .i64 elem) := hg.cell (by go_simp)
      have HG : Hid (Grew w w1) := (((Grew.refl w).alloc _).alloc _).trans hg
      have HSZ := hg.size
      have hb : w1.heap[w.heap.size + 1]? = some (.cells #[.int .i64 0, .bool false, .nilFunc, .nilFunc] 197) := hg.heap (by rw [show w.heap.size + 1 = (w.alloc (.cells #[.int .i64 elem] 3)).heap.size by simp]; exact heap_alloc_new _ _)
      have f4 := row_frozen hb 0
      have f5 := row_frozen hb 1
      have f6 := row_frozen hb 2
      have f7 := row_frozen hb 3
      clear hb
      have c4 : w1.cell? ⟨w.heap.size + 1, 0, none⟩ = some (.int .i64 0) := hg.cell (by go_simp)
      have c5 : w1.cell? ⟨w.heap.size + 1, 1, none⟩ = some (.bool false) := hg.cell (by go_simp)
      have c6 : w1.cell? ⟨w.heap.size + 1, 2, none⟩ = some .nilFunc := hg.cell (by go_simp)
      have c7 : w1.cell? ⟨w.heap.size + 1, 3, none⟩ = some .nilFunc := hg.cell (by go_simp)
      go_wp2
      refine bodyPost_ret (v := .tuple #[.agg #[.int .i64 tt, .bool (many == 0), fnv 220 #[.pointer (some ⟨w.heap.size, 0, none⟩)], fnv 221 #[]], .int .i64 0]) ?_ rfl ⟨by simp [fnv], ?_, ?_, ?_⟩
      · simp [results, Tryz.results171, go_sem, fnv, c4, c5, c6, c7]
      · exact (((HG.out.setCell (by simp) _).setCell (by simp) _).setCell (by simp) _).setCell (by simp) _
      · go_simp
      · simp at HSZ ⊢; omega
theorem noTags_any (a b c : Value) (w : World) : Calls Tryz.prog 221 #[a, b, c] w fun r w' => r = .returned (.tuple #[]) ∧ Grew w w' := by
  go_enter Tryz.func221, Tryz.ntmps221
  go_wp2
  first | go_end0 | refine bodyPost_ret (results_none rfl _ _ _) rfl ?_
  exact ⟨rfl, Grew.refl _⟩
end Go.Proofs.YtjnpcddbgfmpcaaGreat

/-
  Package vec: Put.
-/
namespace Go.Proofs.YtjnpcddbgfmpcaaGreat
open Go Go.ChangeShapes Go.WideShapes Go.ChangeAt Go.RowKit Go.Joins
open Go.Proofs.YtjnpcddbgfmpcaaGreat.Ft (V3 vV okV ValsAt inlineB legalB packF codeF typedF allF)
set_option linter.unusedVariables false
set_option linter.unusedSimpArgs false
theorem row_cell {w : World} {p : Nat} {cs : Array Value} {t : TypeId} (h : w.heap[p]? = some (.cells cs t (0, 0))) (k : Nat) (v : Value) (hv : cs[k]? = some v) : w.cell? ⟨p, k, none⟩ = some v := by
  simp [World.cell?, h, hv]
def eachL (T : V3 → Int) (e : Int) (l : List V3) : Int := l.foldl (fun e v => if e = 0 then T v else e) e
theorem eachL_stuck (T : V3 → Int) {e : Int} (h : e ≠ 0) : ∀ l : List V3, eachL T e l = e
  | [] => rfl
  | v :: r => by
    show eachL T (if e = 0 then T v else e) r = e
    rw [if_neg h]
    exact eachL_stuck T h r
theorem eachL_drop (T : V3 → Int) (e : Int) (l : List V3) (k : Nat) (h : eachL T e (l.take k) ≠ 0) : eachL T e l = eachL T e (l.take k) := by
  have := eachL_stuck T h (l.drop k)
  unfold eachL at *
  rw [← List.foldl_append, List.take_append_drop] at this
  exact this
theorem eachL_snoc (T : V3 → Int) (e : Int) (l : List V3) (k : Nat) (h : k < l.length) (h0 : eachL T e (l.take k) = 0) : eachL T e (l.take (k + 1)) = T l[k] := by
  unfold eachL at *
  rw [List.take_succ_eq_append_getElem h, List.foldl_append]
  simp only [List.foldl_cons, List.foldl_nil]
  rw [if_pos h0]
def putF (most : Int) (T : V3 → Int) (len tagged : Bool) (kind e0 : Int) (l : List V3) (s : St) : (V3 × Int) × St :=
  if eachL T e0 l ≠ 0 then (((0, 0, 0), eachL T e0 l), s) else
  let x := allF l (0, 0, 0) s.1.length (if len then 1 else 0)
  if x = 0 then (((0, 0, 0), 211), s) else
  let s1 := alignS most x s
  let s2 := if len then numS most x l.length s1 else s1
  let s3 := elemsS most x l s2
  let s4 := if tagged then tagsS most x l s3 else s3
  if s4.2 ≠ 0 then (((0, 0, 0), s4.2), s4) else (((kind, x, (s2.1.length : Int)), 0), s4)
theorem allF_isW {l : List V3} {k : V3} {a b : Int} (h : allF l k a b ≠ 0) : isW (allF l k a b) = true := by
  revert h
  unfold allF Ft.leastOf
  repeat' split
  all_goals simp [isW]
def Mid (B : Nat) (w : World) (p : Nat) (o : Option Nat) (most : Int) (lv : Value) (l : List V3) (nR nS : Nat) (kind : Int) (len : Bool) (tg : Value) (s : St) (o' : Option Nat) (wn : World) : Prop :=
  BufAt B wn p o' s.1 most s.2 ∧ Next w o o' ∧ Moved (Own2 p o) w wn ∧ (∀ b, (b = nR ∨ b = nS ∨ ∃ ad n c, lv = .slice (some ad) n c ∧ ad.block = b) → b < wn.heap.size ∧ ¬ Own2 p o' b) ∧ ValsAt wn lv l ∧
    wn.heap[nR]? = some (.cells #[.int .i64 0, .int .i64 0, .int .u64 0] 92) ∧ wn.cell? ⟨nS, 0, none⟩ = some (.int .i64 kind) ∧ wn.cell? ⟨nS, 1, none⟩ = some (.bool len) ∧ wn.cell? ⟨nS, 3, none⟩ = some tg
theorem vals_moved {w w' : World} {S : Nat → Prop} {lv : Value} {l : List V3} (h : ValsAt w lv l) (hm : Moved S w w') (hap : ∀ ad n c, lv = .slice (some ad) n c → ¬ S ad.block) : ValsAt w' lv l := by
  obtain ⟨a, c, rfl, hc⟩ := h
  refine ⟨a, c, rfl, fun i x hx => ?_⟩
  obtain ⟨b, off, rfl, h0, h1, h2⟩ := hc i x hx
  have hn : ¬ S b := hap ⟨b, off, none⟩ _ _ rfl
  exact ⟨b, off, rfl, hm.cell h0 hn, hm.cell h1 hn, hm.cell h2 hn⟩
theorem Mid.step {B : Nat} {w : World} {p : Nat} {o : Option Nat} {most : Int} {lv : Value} {l : List V3} {nR nS : Nat} {kind : Int} {len : Bool} {tg : Value} {s s' : St} {o' : Option Nat} {wn wm : World} (h : Mid B w p o most lv l nR nS kind len tg s o' wn) (ht : TurnB B wn wm p o' most s') :
    ∃ o2, Mid B w p o most lv l nR nS kind len tg s' o2 wm := by
  obtain ⟨hb, hn, hm, hk, hv, hr, g0, g1, g3⟩ := h
  obtain ⟨o2, b2, n2, m2⟩ := ht
  have kR := (hk nR (.inl rfl)).2
  have kS := (hk nS (.inr (.inl rfl))).2
  refine ⟨o2, b2, hn.trans n2 hm.size, hm.own hn m2, fun b hb => ?_, vals_moved hv m2 fun ad n c e => (hk _ (.inr (.inr ⟨ad, n, c, e, rfl⟩))).2, m2.heap hr kR, m2.cell g0 kS, m2.cell g1 kS, m2.cell g3 kS⟩
  have h1 := hk b hb
  refine ⟨Nat.lt_of_lt_of_le h1.1 m2.size, ?_⟩
  rintro (e | e)
  · exact h1.2 (.inl e)
  · rcases n2 b e.symm with e2 | e2
    · exact h1.2 (.inr e2.symm)
    · omega
theorem Mid.turnSet {B : Nat} {w : World} {p : Nat} {o : Option Nat} {most : Int} {lv : Value} {l : List V3} {nR nS : Nat} {kind : Int} {len : Bool} {tg : Value} {s : St} {o' : Option Nat} {wn : World} (h : Mid B w p o most lv l nR nS kind len tg s o' wn) (hge : w.heap.size ≤ nR) (v0 v1 v2 : Value) :
    TurnB B w (((wn.setCell ⟨nR, 0, none⟩ v0).setCell ⟨nR, 1, none⟩ v1).setCell ⟨nR, 2, none⟩ v2) p o most s := by
  obtain ⟨hb, hn, hm, hk, _⟩ := h
  have kR := (hk nR (.inl rfl)).2
  have m : Moved (fun k => k = nR) wn (((wn.setCell ⟨nR, 0, none⟩ v0).setCell ⟨nR, 1, none⟩ v1).setCell ⟨nR, 2, none⟩ v2) :=
    Moved.setCell (S := fun k => k = nR) (p := ⟨nR, 2, none⟩) (Moved.setCell (S := fun k => k = nR) (p := ⟨nR, 1, none⟩) (Moved.setCell (S := fun k => k = nR) (p := ⟨nR, 0, none⟩) (Moved.refl _ wn) (fun _ => rfl) v0) (fun _ => rfl) v1) (fun _ => rfl) v2
  refine ⟨o', hb.kept m (fun e => kR (.inl e.symm)) (fun k e e2 => kR (.inr (by rw [e, e2]))), hn, hm.trans m fun j hj e => by omega⟩
theorem Mid.turn {B : Nat} {w : World} {p : Nat} {o : Option Nat} {most : Int} {lv : Value} {l : List V3} {nR nS : Nat} {kind : Int} {len : Bool} {tg : Value} {s : St} {o' : Option Nat} {wn : World} (h : Mid B w p o most lv l nR nS kind len tg s o' wn) : TurnB B w wn p o most s := ⟨o', h.1, h.2.1, h.2.2.1⟩
theorem ok0 : okV (0, 0, 0) := by unfold okV; simp
def putV (q : V3 × Int) : Value := .tuple #[vV q.1, .int .i64 q.2]
set_option maxRecDepth 100000 in
set_option maxHeartbeats 2000000 in
theorem put_un {B : Nat} {w : World} {p : Nat} {o : Option Nat} {most : Int} (s : St) (lv : Value) (l : List V3) (h : BufAt B w p o s.1 most s.2) (hB : B ≤ w.heap.size) (hl : (s.1.length : Int) ≤ most) (hm1 : most ≤ 1048576)
    (hv : ValsAt w lv l) (hlen : l.length ≤ 1048576) (hok : ∀ v ∈ l, okV v) (hap : ∀ ad n c, lv = .slice (some ad) n c → ad.block < w.heap.size ∧ ¬ Own2 p o ad.block) (hs : s.2 = 0) :
    Calls Tryz.prog 115 #[bptr p, .int .i64 (-1), .int .i64 0, lv] w fun r w' => r = .returned (putV (putF most legalE true true 10 0 l s).1) ∧ TurnB B w w' p o most (putF most legalE true true 10 0 l s).2 := by
  have HB0 := Lib.hid h
  have HA := Lib.hid hap
  have HOK := Lib.hid hok
  have HV := Lib.hid hv
  obtain ⟨a, c, rfl, hcell⟩ := hv
  have HC := Lib.hid hcell
  have HP := Lib.hid (rfl : putF most legalE true true 10 0 l s = putF most legalE true true 10 0 l s)
  generalize hP : putF most legalE true true 10 0 l s = P
  have HPP := Lib.hid hP
  clear h hap hok hcell HP hP
  go_enter Tryz.func115, Tryz.ntmps115
  go_wp2_with fail
  refine (err_any (HB0.out.grew ((Grew.refl w).alloc _))).mono ?_
  rw [hs]
  rintro r w1 ⟨rfl, rfl⟩
  go_wp2_with fail
  refine (shaped_un _).mono ?_
  rintro r w1 ⟨rfl, hg⟩
  have hb : w1.heap[w.heap.size]? = some (.cells #[.int .i64 0, .int .i64 0, .int .u64 0] 92) := hg.heap (heap_alloc_new _ _)
  have HR := Lib.hid hb
  have HG : Hid (Grew w w1) := ((Grew.refl w).alloc _).trans hg
  have HSZ := Lib.hid hg.size
  clear hb hg
  go_wp2_with fail
  go_loopw [12, 13] (fun e i wr => ∃ k : Nat, k ≤ l.length ∧ i = .int .i64 k ∧ e = .int .i64 (eachL legalE 0 (l.take k)) ∧ Hid (Grew w wr ∧ wr.heap[w.heap.size]? = some (.cells #[.int .i64 0, .int .i64 0, .int .u64 0] 92) ∧ wr.cell? ⟨w1.heap.size, 0, none⟩ = some (.int .i64 10) ∧ wr.cell? ⟨w1.heap.size, 1, none⟩ = some (.bool true) ∧ wr.cell? ⟨w1.heap.size, 2, none⟩ = some (fnv 217 #[]) ∧ wr.cell? ⟨w1.heap.size, 3, none⟩ = some (fnv 218 #[]))) (fun _ i _ => l.length - (intOf i).toNat)
  case atStart =>
    refine ⟨0, Nat.zero_le _, rfl, rfl, ?_⟩
    show _ ∧ _
    exact ⟨HG.out.alloc _, ((Grew.refl w1).alloc _).heap HR.out, by go_simp, by go_simp, by go_simp, by go_simp⟩
  case round =>
    obtain ⟨k, hk, rfl, rfl, HW⟩ := hrel
    by_cases hlt : k < l.length
    · by_cases he : eachL legalE 0 (l.take k) = 0
      · obtain ⟨bl, off, rfl, q0, q1, q2⟩ := HC.out k l[k] (List.getElem?_eq_getElem hlt)
        have HSN := Lib.hid (eachL_snoc legalE 0 l k hlt he)
        have d0 := HW.out.1.cell q0
        have d1 := HW.out.1.cell q1
        have d2 := HW.out.1.cell q2
        have g2 := HW.out.2.2.2.2.1
        rw [he]
        generalize l[k] = v at *
        obtain ⟨ty, wd, vn⟩ := v
        simp only at d0 d1 d2
        clear q0 q1 q2
        go_wp2_with fail
        refine wp_region_tables Grew [[], [0], [], [], [2, 3], [4], [1, 5], [6]] [[(54, 2), (55, 3), (56, 4), (57, 5), (58, 6), (12, 7)], [(52, 0), (54, 2), (55, 3), (56, 4), (57, 5), (12, 7)], [(52, 0), (53, 1), (55, 3), (57, 5), (58, 6), (12, 7)], [(52, 0), (53, 1), (54, 2), (57, 5), (58, 6), (12, 7)], [(52, 0), (53, 1), (54, 2), (55, 3), (58, 6), (12, 7)], [(52, 0), (53, 1), (54, 2), (55, 3), (56, 4), (12, 7)], [(52, 0), (53, 1), (54, 2), (55, 3), (56, 4), (57, 5)], [(52, 0), (53, 1), (54, 2), (55, 3), (56, 4), (57, 5), (58, 6)]] [(52, 0), (53, 1), (54, 2), (55, 3), (56, 4), (57, 5), (58, 6), (12, 7)]
          [Is (.pointer (some ⟨w1.heap.size, 2, none⟩)), Is (fnv 217 #[]), Is (.slice (some ⟨bl, off, none⟩) l.length c), Is (.int .i64 k), Is (.pointer (some ⟨bl, off + k * 3, none⟩)), Is (.agg #[.int .i64 ty, .int .i64 wd, .int .u64 vn]), Is (.int .i64 (legalE (ty, wd, vn))), Is (.int .i64 (legalE (ty, wd, vn)))]
          (by kernel_rfl) Grew.trans Grew.refl (Grew.refl _).drew (by kernel_rfl) ⟨is_st, is_st, is_st, is_st, is_st, is_st, is_st, is_st, trivial⟩ ⟨?_, ?_, ?_, ?_, ?_, ?_, ?_, ?_, trivial⟩ rfl ?_
        · intro y w2 hG hD K hK
          simp only [fillL, Act.put, List.setIfInBounds_toArray, List.set_cons_zero, List.set_cons_succ, List.getD_cons_zero, List.getD_cons_succ, Is] at hK ⊢
          refine ite_yes (by rfl) ?_
          go_simp
          exact hK _ _ _ rfl (Grew.refl _) rfl
        · intro y w2 hG hD K hK
          simp only [depsH, List.getD_cons_zero, List.getD_cons_succ, Is, and_true] at hD
          have h0 := hD
          clear hD
          have dg2 := hG.cell g2
          have dd0 := hG.cell d0
          have dd1 := hG.cell d1
          have dd2 := hG.cell d2
          simp only [fillL, Act.put, List.setIfInBounds_toArray, List.set_cons_zero, List.set_cons_succ, List.getD_cons_zero, List.getD_cons_succ, Is] at hK ⊢
          rw [h0] at hK ⊢
          clear h0
          refine ite_yes (by rfl) ?_
          go_simp
          exact hK _ _ _ rfl (Grew.refl _) rfl
        · intro y w2 hG hD K hK
          simp only [fillL, Act.put, List.setIfInBounds_toArray, List.set_cons_zero, List.set_cons_succ, List.getD_cons_zero, List.getD_cons_succ, Is] at hK ⊢
          refine ite_yes (by rfl) ?_
          go_simp
          exact hK _ _ _ rfl (Grew.refl _) rfl
        · intro y w2 hG hD K hK
          simp only [fillL, Act.put, List.setIfInBounds_toArray, List.set_cons_zero, List.set_cons_succ, List.getD_cons_zero, List.getD_cons_succ, Is] at hK ⊢
          refine ite_yes (by rfl) ?_
          go_simp
          exact hK _ _ _ rfl (Grew.refl _) rfl
        · intro y w2 hG hD K hK
          simp only [depsH, List.getD_cons_zero, List.getD_cons_succ, Is, and_true] at hD
          have h2 := hD.1
          have h3 := hD.2
          clear hD
          simp only [fillL, Act.put, List.setIfInBounds_toArray, List.set_cons_zero, List.set_cons_succ, List.getD_cons_zero, List.getD_cons_succ, Is] at hK ⊢
          rw [h2, h3] at hK ⊢
          clear h2 h3
          refine ite_yes (by rfl) ?_
          go_simp
          exact hK _ _ _ rfl (Grew.refl _) rfl
        · intro y w2 hG hD K hK
          simp only [depsH, List.getD_cons_zero, List.getD_cons_succ, Is, and_true] at hD
          have h4 := hD
          clear hD
          have dg2 := hG.cell g2
          have dd0 := hG.cell d0
          have dd1 := hG.cell d1
          have dd2 := hG.cell d2
          simp only [fillL, Act.put, List.setIfInBounds_toArray, List.set_cons_zero, List.set_cons_succ, List.getD_cons_zero, List.getD_cons_succ, Is] at hK ⊢
          rw [h4] at hK ⊢
          clear h4
          refine ite_yes (by rfl) ?_
          go_simp
          exact hK _ _ _ rfl (Grew.refl _) rfl
        · intro y w2 hG hD K hK
          simp only [depsH, List.getD_cons_zero, List.getD_cons_succ, Is, and_true] at hD
          have h1 := hD.1
          have h5 := hD.2
          clear hD
          simp only [fillL, Act.put, List.setIfInBounds_toArray, List.set_cons_zero, List.set_cons_succ, List.getD_cons_zero, List.getD_cons_succ, Is] at hK ⊢
          rw [h1, h5] at hK ⊢
          clear h1 h5
          refine ite_yes (by rfl) ?_
          go_simp
          refine (legalV_any (ty, wd, vn) _).mono ?_
          rintro r w3 ⟨rfl, hg⟩
          exact hK _ _ _ rfl hg rfl
        · intro y w2 hG hD K hK
          simp only [depsH, List.getD_cons_zero, List.getD_cons_succ, Is, and_true] at hD
          have h6 := hD
          clear hD
          simp only [fillL, Act.put, List.setIfInBounds_toArray, List.set_cons_zero, List.set_cons_succ, List.getD_cons_zero, List.getD_cons_succ, Is] at hK ⊢
          rw [h6] at hK ⊢
          clear h6
          refine ite_yes (by rfl) ?_
          go_simp
          exact hK _ _ _ rfl (Grew.refl _) rfl
        · intro y w2 hG hF
          simp only [factsH, Is, and_true, Nat.reduceAdd] at hF
          have h0 := hF.1
          have h1 := hF.2.1
          have h2 := hF.2.2.1
          have h3 := hF.2.2.2.1
          have h4 := hF.2.2.2.2.1
          have h5 := hF.2.2.2.2.2.1
          have h6 := hF.2.2.2.2.2.2.1
          have h7 := hF.2.2.2.2.2.2.2
          clear hF
          simp only [fillL, Act.put, List.setIfInBounds_toArray, List.set_cons_zero, List.set_cons_succ, List.getD_cons_zero, List.getD_cons_succ, Is]
          rw [h0, h1, h2, h3, h4, h5, h6, h7]
          clear h0 h1 h2 h3 h4 h5 h6 h7
          have HG2 := Lib.hid (HW.out.1.trans hG)
          have HGG := Lib.hid hG
          clear hG
          go_wp2
          go_roundw
          case rel =>
            have hw := HW.out
            have hgg := HGG.out
            exact ⟨k + 1, by omega, by go_num, by rw [HSN.out], HG2.out, hgg.heap hw.2.1, hgg.cell hw.2.2.1, hgg.cell hw.2.2.2.1, hgg.cell hw.2.2.2.2.1, hgg.cell hw.2.2.2.2.2⟩
          case measure => simp [intOf]; omega
      · have hF : putF most legalE true true 10 0 l s = (((0, 0, 0), eachL legalE 0 (l.take k)), s) := by
          unfold putF
          rw [eachL_drop legalE 0 l k he, if_pos he]
        have HF := Lib.hid hF
        clear hF
        generalize eachL legalE 0 (l.take k) = e at *
        obtain ⟨hgw, hrow, _, _, _, _⟩ := HW.out
        have f0 := row_frozen hrow 0
        have f1 := row_frozen hrow 1
        have f2 := row_frozen hrow 2
        have c0 := row_cell hrow 0 _ rfl
        have c1 := row_cell hrow 1 _ rfl
        have c2 := row_cell hrow 2 _ rfl
        have HGW := Lib.hid hgw
        clear hrow hgw
        go_wp2
        refine bodyPost_ret (v := putV ((0, 0, 0), e)) ?_ rfl ⟨?_, ?_⟩
        · simp [results, Tryz.results115, go_sem, c0, c1, c2, putV, vV]
        · rw [← HPP.out, HF.out]
        · rw [← HPP.out, HF.out]
          exact (TurnB.refl HB0.out).grew ((((HGW.out).setCell (Nat.le_refl _) _).setCell (Nat.le_refl _) _).setCell (Nat.le_refl _) _)
    · have ek : k = l.length := by omega
      rw [ek, List.take_length]
      by_cases he : eachL legalE 0 l = 0
      · rw [he]
        clear hlt
        obtain ⟨hgw, hrow, g0, g1, g2, g3⟩ := HW.out
        have HGW := Lib.hid hgw
        have HROW := Lib.hid hrow
        clear hrow hgw HW
        go_wp2_with fail
        refine (len_any (HB0.out.grew HGW.out)).mono ?_
        rintro r w3 ⟨rfl, rfl⟩
        go_wp2_with fail
        refine (Ft.all_any l (0, 0, 0) _ 1 _ _ (by omega) HOK.out ok0 (HV.out.grew HGW.out)).mono ?_
        rintro r w3 ⟨rfl, hg⟩
        have HG3 := Lib.hid (HGW.out.trans hg)
        have HROW3 := Lib.hid (hg.heap HROW.out)
        replace g0 := hg.cell g0
        replace g1 := hg.cell g1
        replace g3 := hg.cell g3
        clear hg g2
        by_cases hx : allF l (0, 0, 0) s.1.length 1 = 0
        · have hF : putF most legalE true true 10 0 l s = (((0, 0, 0), 211), s) := by
            unfold putF
            rw [if_neg (by simpa using he)]
            simp [hx]
          have HF := Lib.hid hF
          clear hF
          rw [hx]
          have hrow := HROW3.out
          have f0 := row_frozen hrow 0
          have f1 := row_frozen hrow 1
          have f2 := row_frozen hrow 2
          have c0 := row_cell hrow 0 _ rfl
          have c1 := row_cell hrow 1 _ rfl
          have c2 := row_cell hrow 2 _ rfl
          clear hrow
          go_wp2
          refine bodyPost_ret (v := putV ((0, 0, 0), 211)) ?_ rfl ⟨?_, ?_⟩
          · simp [results, Tryz.results115, go_sem, c0, c1, c2, putV, vV]
          · rw [← HPP.out, HF.out]
          · rw [← HPP.out, HF.out]
            exact (TurnB.refl HB0.out).grew ((((HG3.out).setCell (Nat.le_refl _) _).setCell (Nat.le_refl _) _).setCell (Nat.le_refl _) _)
        · have HX := Lib.hid (allF_isW hx)
          have HXE := Lib.hid (rfl : allF l (0, 0, 0) s.1.length 1 = allF l (0, 0, 0) s.1.length 1)
          have HF : Hid (∀ x, allF l (0, 0, 0) s.1.length 1 = x → x ≠ 0 → putF most legalE true true 10 0 l s = if (tagsS most x l (elemsS most x l (numS most x l.length (alignS most x s)))).2 ≠ 0 then (((0, 0, 0), (tagsS most x l (elemsS most x l (numS most x l.length (alignS most x s)))).2), tagsS most x l (elemsS most x l (numS most x l.length (alignS most x s)))) else (((10, x, ((numS most x l.length (alignS most x s)).1.length : Int)), 0), tagsS most x l (elemsS most x l (numS most x l.length (alignS most x s))))) := by
            show ∀ x, _ = x → _
            intro x hx hx0
            unfold putF
            rw [if_neg (by simpa using he)]
            simp only [if_true]
            rw [hx, if_neg hx0]
          replace HF := Lib.hid (HF.out _ rfl hx)
          have M3 : Mid B w p o most (.slice a l.length c) l w.heap.size w1.heap.size 10 true (fnv 218 #[]) s o w3 := by
            have hs3 := HG3.out.size
            have hlt1 := lt_of_cell g0
            have hb0 := HB0.out.lt
            have hs1 := HG.out.size
            refine ⟨HB0.out.grew HG3.out, Next.refl _ _, Moved.of_grew HG3.out, ?_, HV.out.grew HG3.out, HROW3.out, g0, g1, g3⟩
            rintro b (rfl | rfl | ⟨ad, n, c', e, rfl⟩)
            · exact ⟨by simp at hlt1; omega, fun h => by have := hb0 _ h; omega⟩
            · exact ⟨by simpa using hlt1, fun h => by have := hb0 _ h; omega⟩
            · have := HA.out ad n c' e
              exact ⟨by omega, this.2⟩
          have HM3 := Lib.hid M3
          have HB3 : B ≤ w3.heap.size := Nat.le_trans hB HG3.out.size
          clear M3 HXE g0 g1 g3 HROW3 HROW HG3 HGW
          generalize allF l (0, 0, 0) s.1.length 1 = x at *
          go_wp2_with fail
          refine (align_any s x HM3.out.1 HB3 hl hm1).mono ?_
          rintro r w4 ⟨rfl, ht⟩
          have HB4 : B ≤ w4.heap.size := by obtain ⟨_, _, _, m⟩ := ht; exact Nat.le_trans HB3 m.size
          obtain ⟨o4, m4⟩ := HM3.out.step ht
          have g1 := m4.2.2.2.2.2.2.2.1
          have HM4 := Lib.hid m4
          clear ht m4
          go_wp2_with fail
          refine (num_any (alignS most x s) x (l.length : Int) HM4.out.1 HB4 (alignS_le hl) hm1 (by omega) (by omega)).mono ?_
          rintro r w5 ⟨rfl, ht⟩
          have HB5 : B ≤ w5.heap.size := by obtain ⟨_, _, _, m⟩ := ht; exact Nat.le_trans HB4 m.size
          obtain ⟨o5, m5⟩ := HM4.out.step ht
          have HM5 := Lib.hid m5
          clear ht m5 g1
          go_wp2_with fail
          refine (len_any HM5.out.1).mono ?_
          rintro r w6 ⟨rfl, rfl⟩
          go_wp2_with fail
          refine (elements_any (numS most x l.length (alignS most x s)) x _ l HX.out HM5.out.1 HB5 (numS_le (alignS_le hl)) hm1 HM5.out.2.2.2.2.1 hlen HOK.out (fun ad n c' e => (HM5.out.2.2.2.1 _ (.inr (.inr ⟨ad, n, c', e, rfl⟩))).2)).mono ?_
          rintro r w6 ⟨rfl, ht⟩
          have HB6 : B ≤ w6.heap.size := by obtain ⟨_, _, _, m⟩ := ht; exact Nat.le_trans HB5 m.size
          obtain ⟨o6, m6⟩ := HM5.out.step ht
          have g3 := m6.2.2.2.2.2.2.2.2
          have HM6 := Lib.hid m6
          clear ht m6
          go_wp2_with fail
          refine (tags_any (elemsS most x l (numS most x l.length (alignS most x s))) x _ l HM6.out.1 HB6 (elemsS_le l (numS_le (alignS_le hl))) hm1 HM6.out.2.2.2.2.1 hlen (fun ad n c' e => (HM6.out.2.2.2.1 _ (.inr (.inr ⟨ad, n, c', e, rfl⟩))).2)).mono ?_
          rintro r w7 ⟨rfl, ht⟩
          obtain ⟨o7, m7⟩ := HM6.out.step ht
          have g0 := m7.2.2.2.2.2.2.1
          have hrow := m7.2.2.2.2.2.1
          have HM7 := Lib.hid m7
          clear ht m7 g3
          go_wp2_with fail
          refine (err_any HM7.out.1).mono ?_
          rintro r w8 ⟨rfl, rfl⟩
          have hn2 := numS_le (x := x) (u := (l.length : Int)) (alignS_le (x := x) hl)
          by_cases hz : (tagsS most x l (elemsS most x l (numS most x l.length (alignS most x s)))).2 = 0
          · have HF2 : Hid (putF most legalE true true 10 0 l s = (((10, x, ((numS most x l.length (alignS most x s)).1.length : Int)), 0), (tagsS most x l (elemsS most x l (numS most x l.length (alignS most x s)))))) := HF.out.trans (if_neg (by simpa using hz))
            rw [hz]
            clear HF hz HM3 HM4 HM5 HM6
            generalize (tagsS most x l (elemsS most x l (numS most x l.length (alignS most x s)))) = sf at *
            generalize numS most x l.length (alignS most x s) = s2 at *
            have f0 := row_frozen hrow 0
            have f1 := row_frozen hrow 1
            have f2 := row_frozen hrow 2
            have c0 := row_cell hrow 0 _ rfl
            have c1 := row_cell hrow 1 _ rfl
            have c2 := row_cell hrow 2 _ rfl
            clear hrow
            go_wp2
            refine bodyPost_ret (v := putV ((10, x, (s2.1.length : Int)), 0)) ?_ rfl ⟨?_, ?_⟩
            · simp [results, Tryz.results115, go_sem, c0, c1, c2, putV, vV]
            · rw [← HPP.out, HF2.out]
            · rw [← HPP.out, HF2.out]
              exact HM7.out.turnSet (Nat.le_refl _) _ _ _
          · have HF2 : Hid (putF most legalE true true 10 0 l s = (((0, 0, 0), (tagsS most x l (elemsS most x l (numS most x l.length (alignS most x s)))).2), (tagsS most x l (elemsS most x l (numS most x l.length (alignS most x s)))))) := HF.out.trans (if_pos (by simpa using hz))
            clear HF HM3 HM4 HM5 HM6
            generalize (tagsS most x l (elemsS most x l (numS most x l.length (alignS most x s)))) = sf at *
            have f0 := row_frozen hrow 0
            have f1 := row_frozen hrow 1
            have f2 := row_frozen hrow 2
            have c0 := row_cell hrow 0 _ rfl
            have c1 := row_cell hrow 1 _ rfl
            have c2 := row_cell hrow 2 _ rfl
            clear hrow
            go_wp2
            refine bodyPost_ret (v := putV ((0, 0, 0), sf.2)) ?_ rfl ⟨?_, ?_⟩
            · simp [results, Tryz.results115, go_sem, c0, c1, c2, putV, vV]
            · rw [← HPP.out, HF2.out]
            · rw [← HPP.out, HF2.out]
              exact HM7.out.turnSet (Nat.le_refl _) _ _ _
      · have hF : putF most legalE true true 10 0 l s = (((0, 0, 0), eachL legalE 0 l), s) := by
          unfold putF
          rw [if_pos he]
        have HF := Lib.hid hF
        clear hF
        generalize eachL legalE 0 l = e at *
        obtain ⟨hgw, hrow, _, _, _, _⟩ := HW.out
        have f0 := row_frozen hrow 0
        have f1 := row_frozen hrow 1
        have f2 := row_frozen hrow 2
        have c0 := row_cell hrow 0 _ rfl
        have c1 := row_cell hrow 1 _ rfl
        have c2 := row_cell hrow 2 _ rfl
        have HGW := Lib.hid hgw
        clear hrow hgw
        go_wp2
        refine bodyPost_ret (v := putV ((0, 0, 0), e)) ?_ rfl ⟨?_, ?_⟩
        · simp [results, Tryz.results115, go_sem, c0, c1, c2, putV, vV]
        · rw [← HPP.out, HF.out]
        · rw [← HPP.out, HF.out]
          exact (TurnB.refl HB0.out).grew ((((HGW.out).setCell (Nat.le_refl _) _).setCell (Nat.le_refl _) _).setCell (Nat.le_refl _) _)
end Go.Proofs.YtjnpcddbgfmpcaaGreat

/-
  Package vec: Put, typed vectors with a length.
-/
namespace Go.Proofs.YtjnpcddbgfmpcaaGreat
open Go Go.ChangeShapes Go.WideShapes Go.ChangeAt Go.RowKit Go.Joins
open Go.Proofs.YtjnpcddbgfmpcaaGreat.Ft (V3 vV okV ValsAt inlineB legalB packF codeF typedF allF)
set_option linter.unusedVariables false
set_option linter.unusedSimpArgs false
theorem shaped_0 (elem kd : Int) (hkd : typedF elem 0 = (kd, true)) (hne : elem ≠ -1) (w : World) (n : Nat) (hn : n = w.heap.size) : Calls Tryz.prog 171 #[.int .i64 elem, .int .i64 0] w fun r w' => r = .returned (.tuple #[.agg #[.int .i64 kd, .bool true, fnv 220 #[.pointer (some ⟨n, 0, none⟩)], fnv 221 #[]], .int .i64 0]) ∧ Grew w w' ∧ w'.cell? ⟨n, 0, none⟩ = some (.int .i64 elem) := by
  subst hn
  refine (shaped_ty elem 0 (fun h => hne h.1) w).mono ?_
  rintro r w' ⟨rfl, hg, hc, _⟩
  refine ⟨?_, hg, hc⟩
  unfold shapeT
  rw [hkd]
  rfl
set_option maxRecDepth 100000 in
set_option maxHeartbeats 2000000 in
theorem put_ty0 (elem kd : Int) (hkd : typedF elem 0 = (kd, true)) (hne : elem ≠ -1) {B : Nat} {w : World} {p : Nat} {o : Option Nat} {most : Int} (s : St) (lv : Value) (l : List V3) (h : BufAt B w p o s.1 most s.2) (hB : B ≤ w.heap.size) (hl : (s.1.length : Int) ≤ most) (hm1 : most ≤ 1048576)
    (hv : ValsAt w lv l) (hlen : l.length ≤ 1048576) (hok : ∀ v ∈ l, okV v) (hap : ∀ ad n c, lv = .slice (some ad) n c → ad.block < w.heap.size ∧ ¬ Own2 p o ad.block) (hs : s.2 = 0) :
    Calls Tryz.prog 115 #[bptr p, .int .i64 elem, .int .i64 0, lv] w fun r w' => r = .returned (putV (putF most (takesE elem) true false kd 0 l s).1) ∧ TurnB B w w' p o most (putF most (takesE elem) true false kd 0 l s).2 := by
  have HB0 := Lib.hid h
  have HA := Lib.hid hap
  have HOK := Lib.hid hok
  have HV := Lib.hid hv
  obtain ⟨a, c, rfl, hcell⟩ := hv
  have HC := Lib.hid hcell
  have HP := Lib.hid (rfl : putF most (takesE elem) true false kd 0 l s = putF most (takesE elem) true false kd 0 l s)
  generalize hP : putF most (takesE elem) true false kd 0 l s = P
  have HPP := Lib.hid hP
  clear h hap hok hcell HP hP
  go_enter Tryz.func115, Tryz.ntmps115
  go_wp2_with fail
  refine (err_any (HB0.out.grew ((Grew.refl w).alloc _))).mono ?_
  rw [hs]
  rintro r w1 ⟨rfl, rfl⟩
  go_wp2_with fail
  refine (shaped_0 elem kd hkd hne _ (w.heap.size + 1) (by simp)).mono ?_
  rintro r w1 ⟨rfl, hg, hce⟩
  have HCE := Lib.hid hce
  clear hce hkd
  have hb : w1.heap[w.heap.size]? = some (.cells #[.int .i64 0, .int .i64 0, .int .u64 0] 92) := hg.heap (heap_alloc_new _ _)
  have HR := Lib.hid hb
  have HG : Hid (Grew w w1) := ((Grew.refl w).alloc _).trans hg
  have HSZ := Lib.hid hg.size
  clear hb hg
  go_wp2_with fail
  go_loopw [12, 13] (fun e i wr => ∃ k : Nat, k ≤ l.length ∧ i = .int .i64 k ∧ e = .int .i64 (eachL (takesE elem) 0 (l.take k)) ∧ Hid (Grew w wr ∧ wr.heap[w.heap.size]? = some (.cells #[.int .i64 0, .int .i64 0, .int .u64 0] 92) ∧ wr.cell? ⟨w1.heap.size, 0, none⟩ = some (.int .i64 kd) ∧ wr.cell? ⟨w1.heap.size, 1, none⟩ = some (.bool true) ∧ wr.cell? ⟨w1.heap.size, 2, none⟩ = some (fnv 220 #[.pointer (some ⟨w.heap.size + 1, 0, none⟩)]) ∧ wr.cell? ⟨w1.heap.size, 3, none⟩ = some (fnv 221 #[]) ∧ wr.cell? ⟨w.heap.size + 1, 0, none⟩ = some (.int .i64 elem))) (fun _ i _ => l.length - (intOf i).toNat)
  case atStart =>
    refine ⟨0, Nat.zero_le _, rfl, rfl, ?_⟩
    show _ ∧ _
    exact ⟨HG.out.alloc _, ((Grew.refl w1).alloc _).heap HR.out, by go_simp, by go_simp, by go_simp, by go_simp, ((Grew.refl w1).alloc _).cell HCE.out⟩
  case round =>
    obtain ⟨k, hk, rfl, rfl, HW⟩ := hrel
    by_cases hlt : k < l.length
    · by_cases he : eachL (takesE elem) 0 (l.take k) = 0
      · obtain ⟨bl, off, rfl, q0, q1, q2⟩ := HC.out k l[k] (List.getElem?_eq_getElem hlt)
        have HSN := Lib.hid (eachL_snoc (takesE elem) 0 l k hlt he)
        have d0 := HW.out.1.cell q0
        have d1 := HW.out.1.cell q1
        have d2 := HW.out.1.cell q2
        have g2 := HW.out.2.2.2.2.1
        rw [he]
        generalize l[k] = v at *
        obtain ⟨ty, wd, vn⟩ := v
        simp only at d0 d1 d2
        clear q0 q1 q2
        go_wp2_with fail
        refine wp_region_tables Grew [[], [0], [], [], [2, 3], [4], [1, 5], [6]] [[(54, 2), (55, 3), (56, 4), (57, 5), (58, 6), (12, 7)], [(52, 0), (54, 2), (55, 3), (56, 4), (57, 5), (12, 7)], [(52, 0), (53, 1), (55, 3), (57, 5), (58, 6), (12, 7)], [(52, 0), (53, 1), (54, 2), (57, 5), (58, 6), (12, 7)], [(52, 0), (53, 1), (54, 2), (55, 3), (58, 6), (12, 7)], [(52, 0), (53, 1), (54, 2), (55, 3), (56, 4), (12, 7)], [(52, 0), (53, 1), (54, 2), (55, 3), (56, 4), (57, 5)], [(52, 0), (53, 1), (54, 2), (55, 3), (56, 4), (57, 5), (58, 6)]] [(52, 0), (53, 1), (54, 2), (55, 3), (56, 4), (57, 5), (58, 6), (12, 7)]
          [Is (.pointer (some ⟨w1.heap.size, 2, none⟩)), Is (fnv 220 #[.pointer (some ⟨w.heap.size + 1, 0, none⟩)]), Is (.slice (some ⟨bl, off, none⟩) l.length c), Is (.int .i64 k), Is (.pointer (some ⟨bl, off + k * 3, none⟩)), Is (.agg #[.int .i64 ty, .int .i64 wd, .int .u64 vn]), Is (.int .i64 (takesE elem (ty, wd, vn))), Is (.int .i64 (takesE elem (ty, wd, vn)))]
          (by kernel_rfl) Grew.trans Grew.refl (Grew.refl _).drew (by kernel_rfl) ⟨is_st, is_st, is_st, is_st, is_st, is_st, is_st, is_st, trivial⟩ ⟨?_, ?_, ?_, ?_, ?_, ?_, ?_, ?_, trivial⟩ rfl ?_
        · intro y w2 hG hD K hK
          simp only [fillL, Act.put, List.setIfInBounds_toArray, List.set_cons_zero, List.set_cons_succ, List.getD_cons_zero, List.getD_cons_succ, Is] at hK ⊢
          refine ite_yes (by rfl) ?_
          go_simp
          exact hK _ _ _ rfl (Grew.refl _) rfl
        · intro y w2 hG hD K hK
          simp only [depsH, List.getD_cons_zero, List.getD_cons_succ, Is, and_true] at hD
          have h0 := hD
          clear hD
          have dg2 := hG.cell g2
          have dd0 := hG.cell d0
          have dd1 := hG.cell d1
          have dd2 := hG.cell d2
          simp only [fillL, Act.put, List.setIfInBounds_toArray, List.set_cons_zero, List.set_cons_succ, List.getD_cons_zero, List.getD_cons_succ, Is] at hK ⊢
          rw [h0] at hK ⊢
          clear h0
          refine ite_yes (by rfl) ?_
          go_simp
          exact hK _ _ _ rfl (Grew.refl _) rfl
        · intro y w2 hG hD K hK
          simp only [fillL, Act.put, List.setIfInBounds_toArray, List.set_cons_zero, List.set_cons_succ, List.getD_cons_zero, List.getD_cons_succ, Is] at hK ⊢
          refine ite_yes (by rfl) ?_
          go_simp
          exact hK _ _ _ rfl (Grew.refl _) rfl
        · intro y w2 hG hD K hK
          simp only [fillL, Act.put, List.setIfInBounds_toArray, List.set_cons_zero, List.set_cons_succ, List.getD_cons_zero, List.getD_cons_succ, Is] at hK ⊢
          refine ite_yes (by rfl) ?_
          go_simp
          exact hK _ _ _ rfl (Grew.refl _) rfl
        · intro y w2 hG hD K hK
          simp only [depsH, List.getD_cons_zero, List.getD_cons_succ, Is, and_true] at hD
          have h2 := hD.1
          have h3 := hD.2
          clear hD
          simp only [fillL, Act.put, List.setIfInBounds_toArray, List.set_cons_zero, List.set_cons_succ, List.getD_cons_zero, List.getD_cons_succ, Is] at hK ⊢
          rw [h2, h3] at hK ⊢
          clear h2 h3
          refine ite_yes (by rfl) ?_
          go_simp
          exact hK _ _ _ rfl (Grew.refl _) rfl
        · intro y w2 hG hD K hK
          simp only [depsH, List.getD_cons_zero, List.getD_cons_succ, Is, and_true] at hD
          have h4 := hD
          clear hD
          have dg2 := hG.cell g2
          have dd0 := hG.cell d0
          have dd1 := hG.cell d1
          have dd2 := hG.cell d2
          simp only [fillL, Act.put, List.setIfInBounds_toArray, List.set_cons_zero, List.set_cons_succ, List.getD_cons_zero, List.getD_cons_succ, Is] at hK ⊢
          rw [h4] at hK ⊢
          clear h4
          refine ite_yes (by rfl) ?_
          go_simp
          exact hK _ _ _ rfl (Grew.refl _) rfl
        · intro y w2 hG hD K hK
          simp only [depsH, List.getD_cons_zero, List.getD_cons_succ, Is, and_true] at hD
          have h1 := hD.1
          have h5 := hD.2
          clear hD
          simp only [fillL, Act.put, List.setIfInBounds_toArray, List.set_cons_zero, List.set_cons_succ, List.getD_cons_zero, List.getD_cons_succ, Is] at hK ⊢
          rw [h1, h5] at hK ⊢
          clear h1 h5
          refine ite_yes (by rfl) ?_
          go_simp
          refine (takes_any elem (ty, wd, vn) _ _ (hG.cell HW.out.2.2.2.2.2.2)).mono ?_
          rintro r w3 ⟨rfl, hg⟩
          exact hK _ _ _ rfl hg rfl
        · intro y w2 hG hD K hK
          simp only [depsH, List.getD_cons_zero, List.getD_cons_succ, Is, and_true] at hD
          have h6 := hD
          clear hD
          simp only [fillL, Act.put, List.setIfInBounds_toArray, List.set_cons_zero, List.set_cons_succ, List.getD_cons_zero, List.getD_cons_succ, Is] at hK ⊢
          rw [h6] at hK ⊢
          clear h6
          refine ite_yes (by rfl) ?_
          go_simp
          exact hK _ _ _ rfl (Grew.refl _) rfl
        · intro y w2 hG hF
          simp only [factsH, Is, and_true, Nat.reduceAdd] at hF
          have h0 := hF.1
          have h1 := hF.2.1
          have h2 := hF.2.2.1
          have h3 := hF.2.2.2.1
          have h4 := hF.2.2.2.2.1
          have h5 := hF.2.2.2.2.2.1
          have h6 := hF.2.2.2.2.2.2.1
          have h7 := hF.2.2.2.2.2.2.2
          clear hF
          simp only [fillL, Act.put, List.setIfInBounds_toArray, List.set_cons_zero, List.set_cons_succ, List.getD_cons_zero, List.getD_cons_succ, Is]
          rw [h0, h1, h2, h3, h4, h5, h6, h7]
          clear h0 h1 h2 h3 h4 h5 h6 h7
          have HG2 := Lib.hid (HW.out.1.trans hG)
          have HGG := Lib.hid hG
          clear hG
          go_wp2
          go_roundw
          case rel =>
            have hw := HW.out
            have hgg := HGG.out
            exact ⟨k + 1, by omega, by go_num, by rw [HSN.out], HG2.out, hgg.heap hw.2.1, hgg.cell hw.2.2.1, hgg.cell hw.2.2.2.1, hgg.cell hw.2.2.2.2.1, hgg.cell hw.2.2.2.2.2.1, hgg.cell hw.2.2.2.2.2.2⟩
          case measure => simp [intOf]; omega
      · have hF : putF most (takesE elem) true false kd 0 l s = (((0, 0, 0), eachL (takesE elem) 0 (l.take k)), s) := by
          unfold putF
          rw [eachL_drop (takesE elem) 0 l k he, if_pos he]
        have HF := Lib.hid hF
        clear hF
        generalize eachL (takesE elem) 0 (l.take k) = e at *
        obtain ⟨hgw, hrow, _⟩ := HW.out
        have f0 := row_frozen hrow 0
        have f1 := row_frozen hrow 1
        have f2 := row_frozen hrow 2
        have c0 := row_cell hrow 0 _ rfl
        have c1 := row_cell hrow 1 _ rfl
        have c2 := row_cell hrow 2 _ rfl
        have HGW := Lib.hid hgw
        clear hrow hgw
        go_wp2
        refine bodyPost_ret (v := putV ((0, 0, 0), e)) ?_ rfl ⟨?_, ?_⟩
        · simp [results, Tryz.results115, go_sem, c0, c1, c2, putV, vV]
        · rw [← HPP.out, HF.out]
        · rw [← HPP.out, HF.out]
          exact (TurnB.refl HB0.out).grew ((((HGW.out).setCell (Nat.le_refl _) _).setCell (Nat.le_refl _) _).setCell (Nat.le_refl _) _)
    · have ek : k = l.length := by omega
      rw [ek, List.take_length]
      by_cases he : eachL (takesE elem) 0 l = 0
      · rw [he]
        clear hlt
        obtain ⟨hgw, hrow, g0, g1, g2, g3, _⟩ := HW.out
        have HGW := Lib.hid hgw
        have HROW := Lib.hid hrow
        clear hrow hgw HW
        go_wp2_with fail
        refine (len_any (HB0.out.grew HGW.out)).mono ?_
        rintro r w3 ⟨rfl, rfl⟩
        go_wp2_with fail
        refine (Ft.all_any l (0, 0, 0) _ 1 _ _ (by omega) HOK.out ok0 (HV.out.grew HGW.out)).mono ?_
        rintro r w3 ⟨rfl, hg⟩
        have HG3 := Lib.hid (HGW.out.trans hg)
        have HROW3 := Lib.hid (hg.heap HROW.out)
        replace g0 := hg.cell g0
        replace g1 := hg.cell g1
        replace g3 := hg.cell g3
        clear hg g2
        by_cases hx : allF l (0, 0, 0) s.1.length 1 = 0
        · have hF : putF most (takesE elem) true false kd 0 l s = (((0, 0, 0), 211), s) := by
            unfold putF
            rw [if_neg (by simpa using he)]
            simp [hx]
          have HF := Lib.hid hF
          clear hF
          rw [hx]
          have hrow := HROW3.out
          have f0 := row_frozen hrow 0
          have f1 := row_frozen hrow 1
          have f2 := row_frozen hrow 2
          have c0 := row_cell hrow 0 _ rfl
          have c1 := row_cell hrow 1 _ rfl
          have c2 := row_cell hrow 2 _ rfl
          clear hrow
          go_wp2
          refine bodyPost_ret (v := putV ((0, 0, 0), 211)) ?_ rfl ⟨?_, ?_⟩
          · simp [results, Tryz.results115, go_sem, c0, c1, c2, putV, vV]
          · rw [← HPP.out, HF.out]
          · rw [← HPP.out, HF.out]
            exact (TurnB.refl HB0.out).grew ((((HG3.out).setCell (Nat.le_refl _) _).setCell (Nat.le_refl _) _).setCell (Nat.le_refl _) _)
        · have HX := Lib.hid (allF_isW hx)
          have HXE := Lib.hid (rfl : allF l (0, 0, 0) s.1.length 1 = allF l (0, 0, 0) s.1.length 1)
          have HF : Hid (∀ x, allF l (0, 0, 0) s.1.length 1 = x → x ≠ 0 → putF most (takesE elem) true false kd 0 l s = if (elemsS most x l (numS most x l.length (alignS most x s))).2 ≠ 0 then (((0, 0, 0), (elemsS most x l (numS most x l.length (alignS most x s))).2), elemsS most x l (numS most x l.length (alignS most x s))) else (((kd, x, ((numS most x l.length (alignS most x s)).1.length : Int)), 0), elemsS most x l (numS most x l.length (alignS most x s)))) := by
            show ∀ x, _ = x → _
            intro x hx hx0
            unfold putF
            rw [if_neg (by simpa using he)]
            simp only [if_true, if_false, Bool.false_eq_true, if_neg]
            rw [hx, if_neg hx0]
          replace HF := Lib.hid (HF.out _ rfl hx)
          have M3 : Mid B w p o most (.slice a l.length c) l w.heap.size w1.heap.size kd true (fnv 221 #[]) s o w3 := by
            have hs3 := HG3.out.size
            have hlt1 := lt_of_cell g0
            have hb0 := HB0.out.lt
            have hs1 := HG.out.size
            refine ⟨HB0.out.grew HG3.out, Next.refl _ _, Moved.of_grew HG3.out, ?_, HV.out.grew HG3.out, HROW3.out, g0, g1, g3⟩
            rintro b (rfl | rfl | ⟨ad, n, c', e, rfl⟩)
            · exact ⟨by simp at hlt1; omega, fun h => by have := hb0 _ h; omega⟩
            · exact ⟨by simpa using hlt1, fun h => by have := hb0 _ h; omega⟩
            · have := HA.out ad n c' e
              exact ⟨by omega, this.2⟩
          have HM3 := Lib.hid M3
          have HB3 : B ≤ w3.heap.size := Nat.le_trans hB HG3.out.size
          clear M3 HXE g0 g1 g3 HROW3 HROW HG3 HGW
          generalize allF l (0, 0, 0) s.1.length 1 = x at *
          go_wp2_with fail
          refine (align_any s x HM3.out.1 HB3 hl hm1).mono ?_
          rintro r w4 ⟨rfl, ht⟩
          have HB4 : B ≤ w4.heap.size := by obtain ⟨_, _, _, m⟩ := ht; exact Nat.le_trans HB3 m.size
          obtain ⟨o4, m4⟩ := HM3.out.step ht
          have g1 := m4.2.2.2.2.2.2.2.1
          have HM4 := Lib.hid m4
          clear ht m4
          go_wp2_with fail
          refine (num_any (alignS most x s) x (l.length : Int) HM4.out.1 HB4 (alignS_le hl) hm1 (by omega) (by omega)).mono ?_
          rintro r w5 ⟨rfl, ht⟩
          have HB5 : B ≤ w5.heap.size := by obtain ⟨_, _, _, m⟩ := ht; exact Nat.le_trans HB4 m.size
          obtain ⟨o5, m5⟩ := HM4.out.step ht
          have HM5 := Lib.hid m5
          clear ht m5 g1
          go_wp2_with fail
          refine (len_any HM5.out.1).mono ?_
          rintro r w6 ⟨rfl, rfl⟩
          go_wp2_with fail
          refine (elements_any (numS most x l.length (alignS most x s)) x _ l HX.out HM5.out.1 HB5 (numS_le (alignS_le hl)) hm1 HM5.out.2.2.2.2.1 hlen HOK.out (fun ad n c' e => (HM5.out.2.2.2.1 _ (.inr (.inr ⟨ad, n, c', e, rfl⟩))).2)).mono ?_
          rintro r w6 ⟨rfl, ht⟩
          have HB6 : B ≤ w6.heap.size := by obtain ⟨_, _, _, m⟩ := ht; exact Nat.le_trans HB5 m.size
          obtain ⟨o6, m6⟩ := HM5.out.step ht
          have g3 := m6.2.2.2.2.2.2.2.2
          have HM6 := Lib.hid m6
          clear ht m6
          go_wp2_with fail
          refine (noTags_any _ _ _ _).mono ?_
          rintro r w7 ⟨rfl, hg⟩
          have ht := (TurnB.refl (o := o6) HM6.out.1).grew hg
          obtain ⟨o7, m7⟩ := HM6.out.step ht
          have g0 := m7.2.2.2.2.2.2.1
          have hrow := m7.2.2.2.2.2.1
          have HM7 := Lib.hid m7
          clear ht m7 g3
          go_wp2_with fail
          refine (err_any HM7.out.1).mono ?_
          rintro r w8 ⟨rfl, rfl⟩
          have hn2 := numS_le (x := x) (u := (l.length : Int)) (alignS_le (x := x) hl)
          by_cases hz : (elemsS most x l (numS most x l.length (alignS most x s))).2 = 0
          · have HF2 : Hid (putF most (takesE elem) true false kd 0 l s = (((kd, x, ((numS most x l.length (alignS most x s)).1.length : Int)), 0), (elemsS most x l (numS most x l.length (alignS most x s))))) := HF.out.trans (if_neg (by simpa using hz))
            rw [hz]
            clear HF hz HM3 HM4 HM5 HM6
            generalize (elemsS most x l (numS most x l.length (alignS most x s))) = sf at *
            generalize numS most x l.length (alignS most x s) = s2 at *
            have f0 := row_frozen hrow 0
            have f1 := row_frozen hrow 1
            have f2 := row_frozen hrow 2
            have c0 := row_cell hrow 0 _ rfl
            have c1 := row_cell hrow 1 _ rfl
            have c2 := row_cell hrow 2 _ rfl
            clear hrow
            go_wp2
            refine bodyPost_ret (v := putV ((kd, x, (s2.1.length : Int)), 0)) ?_ rfl ⟨?_, ?_⟩
            · simp [results, Tryz.results115, go_sem, c0, c1, c2, putV, vV]
            · rw [← HPP.out, HF2.out]
            · rw [← HPP.out, HF2.out]
              exact HM7.out.turnSet (Nat.le_refl _) _ _ _
          · have HF2 : Hid (putF most (takesE elem) true false kd 0 l s = (((0, 0, 0), (elemsS most x l (numS most x l.length (alignS most x s))).2), (elemsS most x l (numS most x l.length (alignS most x s))))) := HF.out.trans (if_pos (by simpa using hz))
            clear HF HM3 HM4 HM5 HM6
            generalize (elemsS most x l (numS most x l.length (alignS most x s))) = sf at *
            have f0 := row_frozen hrow 0
            have f1 := row_frozen hrow 1
            have f2 := row_frozen hrow 2
            have c0 := row_cell hrow 0 _ rfl
            have c1 := row_cell hrow 1 _ rfl
            have c2 := row_cell hrow 2 _ rfl
            clear hrow
            go_wp2
            refine bodyPost_ret (v := putV ((0, 0, 0), sf.2)) ?_ rfl ⟨?_, ?_⟩
            · simp [results, Tryz.results115, go_sem, c0, c1, c2, putV, vV]
            · rw [← HPP.out, HF2.out]
            · rw [← HPP.out, HF2.out]
              exact HM7.out.turnSet (Nat.le_refl _) _ _ _
      · have hF : putF most (takesE elem) true false kd 0 l s = (((0, 0, 0), eachL (takesE elem) 0 l), s) := by
          unfold putF
          rw [if_pos he]
        have HF := Lib.hid hF
        clear hF
        generalize eachL (takesE elem) 0 l = e at *
        obtain ⟨hgw, hrow, _⟩ := HW.out
        have f0 := row_frozen hrow 0
        have f1 := row_frozen hrow 1
        have f2 := row_frozen hrow 2
        have c0 := row_cell hrow 0 _ rfl
        have c1 := row_cell hrow 1 _ rfl
        have c2 := row_cell hrow 2 _ rfl
        have HGW := Lib.hid hgw
        clear hrow hgw
        go_wp2
        refine bodyPost_ret (v := putV ((0, 0, 0), e)) ?_ rfl ⟨?_, ?_⟩
        · simp [results, Tryz.results115, go_sem, c0, c1, c2, putV, vV]
        · rw [← HPP.out, HF.out]
        · rw [← HPP.out, HF.out]
          exact (TurnB.refl HB0.out).grew ((((HGW.out).setCell (Nat.le_refl _) _).setCell (Nat.le_refl _) _).setCell (Nat.le_refl _) _)
end Go.Proofs.YtjnpcddbgfmpcaaGreat

/-
  Package vec: Put, fixed vectors.
-/
namespace Go.Proofs.YtjnpcddbgfmpcaaGreat
open Go Go.ChangeShapes Go.WideShapes Go.ChangeAt Go.RowKit Go.Joins
open Go.Proofs.YtjnpcddbgfmpcaaGreat.Ft (V3 vV okV ValsAt inlineB legalB packF codeF typedF allF)
set_option linter.unusedVariables false
set_option linter.unusedSimpArgs false
theorem shaped_f (elem kd : Int) (m : Nat) (hkd : typedF elem (m : Int) = (kd, true)) (hpos : 0 < m) (w : World) (n : Nat) (hn : n = w.heap.size) : Calls Tryz.prog 171 #[.int .i64 elem, .int .i64 (m : Int)] w fun r w' => r = .returned (.tuple #[.agg #[.int .i64 kd, .bool false, fnv 220 #[.pointer (some ⟨n, 0, none⟩)], fnv 221 #[]], .int .i64 0]) ∧ Grew w w' ∧ w'.cell? ⟨n, 0, none⟩ = some (.int .i64 elem) := by
  subst hn
  refine (shaped_ty elem m (fun h => by omega) w).mono ?_
  rintro r w' ⟨rfl, hg, hc, _⟩
  refine ⟨?_, hg, hc⟩
  unfold shapeT
  rw [hkd, if_pos rfl, show ((m : Int) == 0) = false by simp; omega]
set_option maxRecDepth 100000 in
set_option maxHeartbeats 2000000 in
theorem put_fix (elem kd : Int) {B : Nat} {w : World} {p : Nat} {o : Option Nat} {most : Int} (s : St) (lv : Value) (l : List V3) (hkd : typedF elem (l.length : Int) = (kd, true)) (hpos : 0 < l.length) (h : BufAt B w p o s.1 most s.2) (hB : B ≤ w.heap.size) (hl : (s.1.length : Int) ≤ most) (hm1 : most ≤ 1048576)
    (hv : ValsAt w lv l) (hlen : l.length ≤ 1048576) (hok : ∀ v ∈ l, okV v) (hap : ∀ ad n c, lv = .slice (some ad) n c → ad.block < w.heap.size ∧ ¬ Own2 p o ad.block) (hs : s.2 = 0) :
    Calls Tryz.prog 115 #[bptr p, .int .i64 elem, .int .i64 (l.length : Int), lv] w fun r w' => r = .returned (putV (putF most (takesE elem) false false kd 0 l s).1) ∧ TurnB B w w' p o most (putF most (takesE elem) false false kd 0 l s).2 := by
  have HB0 := Lib.hid h
  have HA := Lib.hid hap
  have HOK := Lib.hid hok
  have HV := Lib.hid hv
  obtain ⟨a, c, rfl, hcell⟩ := hv
  have HC := Lib.hid hcell
  have HP := Lib.hid (rfl : putF most (takesE elem) false false kd 0 l s = putF most (takesE elem) false false kd 0 l s)
  generalize hP : putF most (takesE elem) false false kd 0 l s = P
  have HPP := Lib.hid hP
  clear h hap hok hcell HP hP
  go_enter Tryz.func115, Tryz.ntmps115
  go_wp2_with fail
  refine (err_any (HB0.out.grew ((Grew.refl w).alloc _))).mono ?_
  rw [hs]
  rintro r w1 ⟨rfl, rfl⟩
  go_wp2_with fail
  refine (shaped_f elem kd l.length hkd hpos _ (w.heap.size + 1) (by simp)).mono ?_
  rintro r w1 ⟨rfl, hg, hce⟩
  have HCE := Lib.hid hce
  clear hce hkd
  have hb : w1.heap[w.heap.size]? = some (.cells #[.int .i64 0, .int .i64 0, .int .u64 0] 92) := hg.heap (heap_alloc_new _ _)
  have HR := Lib.hid hb
  have HG : Hid (Grew w w1) := ((Grew.refl w).alloc _).trans hg
  have HSZ := Lib.hid hg.size
  clear hb hg
  go_wp2_with fail
  go_loopw [12, 13] (fun e i wr => ∃ k : Nat, k ≤ l.length ∧ i = .int .i64 k ∧ e = .int .i64 (eachL (takesE elem) 0 (l.take k)) ∧ Hid (Grew w wr ∧ wr.heap[w.heap.size]? = some (.cells #[.int .i64 0, .int .i64 0, .int .u64 0] 92) ∧ wr.cell? ⟨w1.heap.size, 0, none⟩ = some (.int .i64 kd) ∧ wr.cell? ⟨w1.heap.size, 1, none⟩ = some (.bool false) ∧ wr.cell? ⟨w1.heap.size, 2, none⟩ = some (fnv 220 #[.pointer (some ⟨w.heap.size + 1, 0, none⟩)]) ∧ wr.cell? ⟨w1.heap.size, 3, none⟩ = some (fnv 221 #[]) ∧ wr.cell? ⟨w.heap.size + 1, 0, none⟩ = some (.int .i64 elem))) (fun _ i _ => l.length - (intOf i).toNat)
  case atStart =>
    refine ⟨0, Nat.zero_le _, rfl, rfl, ?_⟩
    show _ ∧ _
    exact ⟨HG.out.alloc _, ((Grew.refl w1).alloc _).heap HR.out, by go_simp, by go_simp, by go_simp, by go_simp, ((Grew.refl w1).alloc _).cell HCE.out⟩
  case round =>
    obtain ⟨k, hk, rfl, rfl, HW⟩ := hrel
    by_cases hlt : k < l.length
    · by_cases he : eachL (takesE elem) 0 (l.take k) = 0
      · obtain ⟨bl, off, rfl, q0, q1, q2⟩ := HC.out k l[k] (List.getElem?_eq_getElem hlt)
        have HSN := Lib.hid (eachL_snoc (takesE elem) 0 l k hlt he)
        have d0 := HW.out.1.cell q0
        have d1 := HW.out.1.cell q1
        have d2 := HW.out.1.cell q2
        have g2 := HW.out.2.2.2.2.1
        rw [he]
        generalize l[k] = v at *
        obtain ⟨ty, wd, vn⟩ := v
        simp only at d0 d1 d2
        clear q0 q1 q2
        go_wp2_with fail
        refine wp_region_tables Grew [[], [0], [], [], [2, 3], [4], [1, 5], [6]] [[(54, 2), (55, 3), (56, 4), (57, 5), (58, 6), (12, 7)], [(52, 0), (54, 2), (55, 3), (56, 4), (57, 5), (12, 7)], [(52, 0), (53, 1), (55, 3), (57, 5), (58, 6), (12, 7)], [(52, 0), (53, 1), (54, 2), (57, 5), (58, 6), (12, 7)], [(52, 0), (53, 1), (54, 2), (55, 3), (58, 6), (12, 7)], [(52, 0), (53, 1), (54, 2), (55, 3), (56, 4), (12, 7)], [(52, 0), (53, 1), (54, 2), (55, 3), (56, 4), (57, 5)], [(52, 0), (53, 1), (54, 2), (55, 3), (56, 4), (57, 5), (58, 6)]] [(52, 0), (53, 1), (54, 2), (55, 3), (56, 4), (57, 5), (58, 6), (12, 7)]
          [Is (.pointer (some ⟨w1.heap.size, 2, none⟩)), Is (fnv 220 #[.pointer (some ⟨w.heap.size + 1, 0, none⟩)]), Is (.slice (some ⟨bl, off, none⟩) l.length c), Is (.int .i64 k), Is (.pointer (some ⟨bl, off + k * 3, none⟩)), Is (.agg #[.int .i64 ty, .int .i64 wd, .int .u64 vn]), Is (.int .i64 (takesE elem (ty, wd, vn))), Is (.int .i64 (takesE elem (ty, wd, vn)))]
          (by kernel_rfl) Grew.trans Grew.refl (Grew.refl _).drew (by kernel_rfl) ⟨is_st, is_st, is_st, is_st, is_st, is_st, is_st, is_st, trivial⟩ ⟨?_, ?_, ?_, ?_, ?_, ?_, ?_, ?_, trivial⟩ rfl ?_
        · intro y w2 hG hD K hK
          simp only [fillL, Act.put, List.setIfInBounds_toArray, List.set_cons_zero, List.set_cons_succ, List.getD_cons_zero, List.getD_cons_succ, Is] at hK ⊢
          refine ite_yes (by rfl) ?_
          go_simp
          exact hK _ _ _ rfl (Grew.refl _) rfl
        · intro y w2 hG hD K hK
          simp only [depsH, List.getD_cons_zero, List.getD_cons_succ, Is, and_true] at hD
          have h0 := hD
          clear hD
          have dg2 := hG.cell g2
          have dd0 := hG.cell d0
          have dd1 := hG.cell d1
          have dd2 := hG.cell d2
          simp only [fillL, Act.put, List.setIfInBounds_toArray, List.set_cons_zero, List.set_cons_succ, List.getD_cons_zero, List.getD_cons_succ, Is] at hK ⊢
          rw [h0] at hK ⊢
          clear h0
          refine ite_yes (by rfl) ?_
          go_simp
          exact hK _ _ _ rfl (Grew.refl _) rfl
        · intro y w2 hG hD K hK
          simp only [fillL, Act.put, List.setIfInBounds_toArray, List.set_cons_zero, List.set_cons_succ, List.getD_cons_zero, List.getD_cons_succ, Is] at hK ⊢
          refine ite_yes (by rfl) ?_
          go_simp
          exact hK _ _ _ rfl (Grew.refl _) rfl
        · intro y w2 hG hD K hK
          simp only [fillL, Act.put, List.setIfInBounds_toArray, List.set_cons_zero, List.set_cons_succ, List.getD_cons_zero, List.getD_cons_succ, Is] at hK ⊢
          refine ite_yes (by rfl) ?_
          go_simp
          exact hK _ _ _ rfl (Grew.refl _) rfl
        · intro y w2 hG hD K hK
          simp only [depsH, List.getD_cons_zero, List.getD_cons_succ, Is, and_true] at hD
          have h2 := hD.1
          have h3 := hD.2
          clear hD
          simp only [fillL, Act.put, List.setIfInBounds_toArray, List.set_cons_zero, List.set_cons_succ, List.getD_cons_zero, List.getD_cons_succ, Is] at hK ⊢
          rw [h2, h3] at hK ⊢
          clear h2 h3
          refine ite_yes (by rfl) ?_
          go_simp
          exact hK _ _ _ rfl (Grew.refl _) rfl
        · intro y w2 hG hD K hK
          simp only [depsH, List.getD_cons_zero, List.getD_cons_succ, Is, and_true] at hD
          have h4 := hD
          clear hD
          have dg2 := hG.cell g2
          have dd0 := hG.cell d0
          have dd1 := hG.cell d1
          have dd2 := hG.cell d2
          simp only [fillL, Act.put, List.setIfInBounds_toArray, List.set_cons_zero, List.set_cons_succ, List.getD_cons_zero, List.getD_cons_succ, Is] at hK ⊢
          rw [h4] at hK ⊢
          clear h4
          refine ite_yes (by rfl) ?_
          go_simp
          exact hK _ _ _ rfl (Grew.refl _) rfl
        · intro y w2 hG hD K hK
          simp only [depsH, List.getD_cons_zero, List.getD_cons_succ, Is, and_true] at hD
          have h1 := hD.1
          have h5 := hD.2
          clear hD
          simp only [fillL, Act.put, List.setIfInBounds_toArray, List.set_cons_zero, List.set_cons_succ, List.getD_cons_zero, List.getD_cons_succ, Is] at hK ⊢
          rw [h1, h5] at hK ⊢
          clear h1 h5
          refine ite_yes (by rfl) ?_
          go_simp
          refine (takes_any elem (ty, wd, vn) _ _ (hG.cell HW.out.2.2.2.2.2.2)).mono ?_
          rintro r w3 ⟨rfl, hg⟩
          exact hK _ _ _ rfl hg rfl
        · intro y w2 hG hD K hK
          simp only [depsH, List.getD_cons_zero, List.getD_cons_succ, Is, and_true] at hD
          have h6 := hD
          clear hD
          simp only [fillL, Act.put, List.setIfInBounds_toArray, List.set_cons_zero, List.set_cons_succ, List.getD_cons_zero, List.getD_cons_succ, Is] at hK ⊢
          rw [h6] at hK ⊢
          clear h6
          refine ite_yes (by rfl) ?_
          go_simp
          exact hK _ _ _ rfl (Grew.refl _) rfl
        · intro y w2 hG hF
          simp only [factsH, Is, and_true, Nat.reduceAdd] at hF
          have h0 := hF.1
          have h1 := hF.2.1
          have h2 := hF.2.2.1
          have h3 := hF.2.2.2.1
          have h4 := hF.2.2.2.2.1
          have h5 := hF.2.2.2.2.2.1
          have h6 := hF.2.2.2.2.2.2.1
          have h7 := hF.2.2.2.2.2.2.2
          clear hF
          simp only [fillL, Act.put, List.setIfInBounds_toArray, List.set_cons_zero, List.set_cons_succ, List.getD_cons_zero, List.getD_cons_succ, Is]
          rw [h0, h1, h2, h3, h4, h5, h6, h7]
          clear h0 h1 h2 h3 h4 h5 h6 h7
          have HG2 := Lib.hid (HW.out.1.trans hG)
          have HGG := Lib.hid hG
          clear hG
          go_wp2
          go_roundw
          case rel =>
            have hw := HW.out
            have hgg := HGG.out
            exact ⟨k + 1, by omega, by go_num, by rw [HSN.out], HG2.out, hgg.heap hw.2.1, hgg.cell hw.2.2.1, hgg.cell hw.2.2.2.1, hgg.cell hw.2.2.2.2.1, hgg.cell hw.2.2.2.2.2.1, hgg.cell hw.2.2.2.2.2.2⟩
          case measure => simp [intOf]; omega
      · have hF : putF most (takesE elem) false false kd 0 l s = (((0, 0, 0), eachL (takesE elem) 0 (l.take k)), s) := by
          unfold putF
          rw [eachL_drop (takesE elem) 0 l k he, if_pos he]
        have HF := Lib.hid hF
        clear hF
        generalize eachL (takesE elem) 0 (l.take k) = e at *
        obtain ⟨hgw, hrow, _⟩ := HW.out
        have f0 := row_frozen hrow 0
        have f1 := row_frozen hrow 1
        have f2 := row_frozen hrow 2
        have c0 := row_cell hrow 0 _ rfl
        have c1 := row_cell hrow 1 _ rfl
        have c2 := row_cell hrow 2 _ rfl
        have HGW := Lib.hid hgw
        clear hrow hgw
        go_wp2
        refine bodyPost_ret (v := putV ((0, 0, 0), e)) ?_ rfl ⟨?_, ?_⟩
        · simp [results, Tryz.results115, go_sem, c0, c1, c2, putV, vV]
        · rw [← HPP.out, HF.out]
        · rw [← HPP.out, HF.out]
          exact (TurnB.refl HB0.out).grew ((((HGW.out).setCell (Nat.le_refl _) _).setCell (Nat.le_refl _) _).setCell (Nat.le_refl _) _)
    · have ek : k = l.length := by omega
      rw [ek, List.take_length]
      by_cases he : eachL (takesE elem) 0 l = 0
      · rw [he]
        clear hlt
        obtain ⟨hgw, hrow, g0, g1, g2, g3, _⟩ := HW.out
        have HGW := Lib.hid hgw
        have HROW := Lib.hid hrow
        clear hrow hgw HW
        go_wp2_with fail
        refine (len_any (HB0.out.grew HGW.out)).mono ?_
        rintro r w3 ⟨rfl, rfl⟩
        go_wp2_with fail
        refine (Ft.all_any l (0, 0, 0) _ 0 _ _ (by omega) HOK.out ok0 (HV.out.grew HGW.out)).mono ?_
        rintro r w3 ⟨rfl, hg⟩
        have HG3 := Lib.hid (HGW.out.trans hg)
        have HROW3 := Lib.hid (hg.heap HROW.out)
        replace g0 := hg.cell g0
        replace g1 := hg.cell g1
        replace g3 := hg.cell g3
        clear hg g2
        by_cases hx : allF l (0, 0, 0) s.1.length 0 = 0
        · have hF : putF most (takesE elem) false false kd 0 l s = (((0, 0, 0), 211), s) := by
            unfold putF
            rw [if_neg (by simpa using he)]
            simp [hx]
          have HF := Lib.hid hF
          clear hF
          rw [hx]
          have hrow := HROW3.out
          have f0 := row_frozen hrow 0
          have f1 := row_frozen hrow 1
          have f2 := row_frozen hrow 2
          have c0 := row_cell hrow 0 _ rfl
          have c1 := row_cell hrow 1 _ rfl
          have c2 := row_cell hrow 2 _ rfl
          clear hrow
          go_wp2
          refine bodyPost_ret (v := putV ((0, 0, 0), 211)) ?_ rfl ⟨?_, ?_⟩
          · simp [results, Tryz.results115, go_sem, c0, c1, c2, putV, vV]
          · rw [← HPP.out, HF.out]
          · rw [← HPP.out, HF.out]
            exact (TurnB.refl HB0.out).grew ((((HG3.out).setCell (Nat.le_refl _) _).setCell (Nat.le_refl _) _).setCell (Nat.le_refl _) _)
        · have HX := Lib.hid (allF_isW hx)
          have HXE := Lib.hid (rfl : allF l (0, 0, 0) s.1.length 0 = allF l (0, 0, 0) s.1.length 0)
          have HF : Hid (∀ x, allF l (0, 0, 0) s.1.length 0 = x → x ≠ 0 → putF most (takesE elem) false false kd 0 l s = if (elemsS most x l (alignS most x s)).2 ≠ 0 then (((0, 0, 0), (elemsS most x l (alignS most x s)).2), elemsS most x l (alignS most x s)) else (((kd, x, ((alignS most x s).1.length : Int)), 0), elemsS most x l (alignS most x s))) := by
            show ∀ x, _ = x → _
            intro x hx hx0
            unfold putF
            rw [if_neg (by simpa using he)]
            simp only [if_true, if_false, Bool.false_eq_true, if_neg]
            rw [hx, if_neg hx0]
          replace HF := Lib.hid (HF.out _ rfl hx)
          have M3 : Mid B w p o most (.slice a l.length c) l w.heap.size w1.heap.size kd false (fnv 221 #[]) s o w3 := by
            have hs3 := HG3.out.size
            have hlt1 := lt_of_cell g0
            have hb0 := HB0.out.lt
            have hs1 := HG.out.size
            refine ⟨HB0.out.grew HG3.out, Next.refl _ _, Moved.of_grew HG3.out, ?_, HV.out.grew HG3.out, HROW3.out, g0, g1, g3⟩
            rintro b (rfl | rfl | ⟨ad, n, c', e, rfl⟩)
            · exact ⟨by simp at hlt1; omega, fun h => by have := hb0 _ h; omega⟩
            · exact ⟨by simpa using hlt1, fun h => by have := hb0 _ h; omega⟩
            · have := HA.out ad n c' e
              exact ⟨by omega, this.2⟩
          have HM3 := Lib.hid M3
          have HB3 : B ≤ w3.heap.size := Nat.le_trans hB HG3.out.size
          clear M3 HXE g0 g1 g3 HROW3 HROW HG3 HGW
          generalize allF l (0, 0, 0) s.1.length 0 = x at *
          go_wp2_with fail
          refine (align_any s x HM3.out.1 HB3 hl hm1).mono ?_
          rintro r w4 ⟨rfl, ht⟩
          have HB4 : B ≤ w4.heap.size := by obtain ⟨_, _, _, m⟩ := ht; exact Nat.le_trans HB3 m.size
          obtain ⟨o4, m4⟩ := HM3.out.step ht
          have g1 := m4.2.2.2.2.2.2.2.1
          have HM4 := Lib.hid m4
          clear ht m4
          go_wp2_with fail
          refine (len_any HM4.out.1).mono ?_
          rintro r w6 ⟨rfl, rfl⟩
          go_wp2_with fail
          refine (elements_any (alignS most x s) x _ l HX.out HM4.out.1 HB4 (alignS_le hl) hm1 HM4.out.2.2.2.2.1 hlen HOK.out (fun ad n c' e => (HM4.out.2.2.2.1 _ (.inr (.inr ⟨ad, n, c', e, rfl⟩))).2)).mono ?_
          rintro r w6 ⟨rfl, ht⟩
          have HB6 : B ≤ w6.heap.size := by obtain ⟨_, _, _, m⟩ := ht; exact Nat.le_trans HB4 m.size
          obtain ⟨o6, m6⟩ := HM4.out.step ht
          have g3 := m6.2.2.2.2.2.2.2.2
          have HM6 := Lib.hid m6
          clear ht m6
          go_wp2_with fail
          refine (noTags_any _ _ _ _).mono ?_
          rintro r w7 ⟨rfl, hg⟩
          have ht := (TurnB.refl (o := o6) HM6.out.1).grew hg
          obtain ⟨o7, m7⟩ := HM6.out.step ht
          have g0 := m7.2.2.2.2.2.2.1
          have hrow := m7.2.2.2.2.2.1
          have HM7 := Lib.hid m7
          clear ht m7 g3
          go_wp2_with fail
          refine (err_any HM7.out.1).mono ?_
          rintro r w8 ⟨rfl, rfl⟩
          have hn2 := alignS_le (x := x) hl
          by_cases hz : (elemsS most x l (alignS most x s)).2 = 0
          · have HF2 : Hid (putF most (takesE elem) false false kd 0 l s = (((kd, x, ((alignS most x s).1.length : Int)), 0), (elemsS most x l (alignS most x s)))) := HF.out.trans (if_neg (by simpa using hz))
            rw [hz]
            clear HF hz HM3 HM4 HM6
            generalize (elemsS most x l (alignS most x s)) = sf at *
            generalize alignS most x s = s2 at *
            have f0 := row_frozen hrow 0
            have f1 := row_frozen hrow 1
            have f2 := row_frozen hrow 2
            have c0 := row_cell hrow 0 _ rfl
            have c1 := row_cell hrow 1 _ rfl
            have c2 := row_cell hrow 2 _ rfl
            clear hrow
            go_wp2
            refine bodyPost_ret (v := putV ((kd, x, (s2.1.length : Int)), 0)) ?_ rfl ⟨?_, ?_⟩
            · simp [results, Tryz.results115, go_sem, c0, c1, c2, putV, vV]
            · rw [← HPP.out, HF2.out]
            · rw [← HPP.out, HF2.out]
              exact HM7.out.turnSet (Nat.le_refl _) _ _ _
          · have HF2 : Hid (putF most (takesE elem) false false kd 0 l s = (((0, 0, 0), (elemsS most x l (alignS most x s)).2), (elemsS most x l (alignS most x s)))) := HF.out.trans (if_pos (by simpa using hz))
            clear HF HM3 HM4 HM6
            generalize (elemsS most x l (alignS most x s)) = sf at *
            have f0 := row_frozen hrow 0
            have f1 := row_frozen hrow 1
            have f2 := row_frozen hrow 2
            have c0 := row_cell hrow 0 _ rfl
            have c1 := row_cell hrow 1 _ rfl
            have c2 := row_cell hrow 2 _ rfl
            clear hrow
            go_wp2
            refine bodyPost_ret (v := putV ((0, 0, 0), sf.2)) ?_ rfl ⟨?_, ?_⟩
            · simp [results, Tryz.results115, go_sem, c0, c1, c2, putV, vV]
            · rw [← HPP.out, HF2.out]
            · rw [← HPP.out, HF2.out]
              exact HM7.out.turnSet (Nat.le_refl _) _ _ _
      · have hF : putF most (takesE elem) false false kd 0 l s = (((0, 0, 0), eachL (takesE elem) 0 l), s) := by
          unfold putF
          rw [if_pos he]
        have HF := Lib.hid hF
        clear hF
        generalize eachL (takesE elem) 0 l = e at *
        obtain ⟨hgw, hrow, _⟩ := HW.out
        have f0 := row_frozen hrow 0
        have f1 := row_frozen hrow 1
        have f2 := row_frozen hrow 2
        have c0 := row_cell hrow 0 _ rfl
        have c1 := row_cell hrow 1 _ rfl
        have c2 := row_cell hrow 2 _ rfl
        have HGW := Lib.hid hgw
        clear hrow hgw
        go_wp2
        refine bodyPost_ret (v := putV ((0, 0, 0), e)) ?_ rfl ⟨?_, ?_⟩
        · simp [results, Tryz.results115, go_sem, c0, c1, c2, putV, vV]
        · rw [← HPP.out, HF.out]
        · rw [← HPP.out, HF.out]
          exact (TurnB.refl HB0.out).grew ((((HGW.out).setCell (Nat.le_refl _) _).setCell (Nat.le_refl _) _).setCell (Nat.le_refl _) _)
end Go.Proofs.YtjnpcddbgfmpcaaGreat

/-
  Package le: within, Load.
-/
namespace Go.Proofs.YtjnpcddbgfmpcaaGreat
open Go Go.ChangeShapes Go.WideShapes Go.ChangeAt Go.RowKit Go.Joins
set_option linter.unusedVariables false
set_option linter.unusedSimpArgs false
def loadF (l : List UInt8) (at_ x : Int) : Int × Int := if isW x = true then (if at_ < 0 ∨ at_ > l.length - x then (0, 6) else (leF ((l.drop at_.toNat).take x.toNat), 0)) else (0, 2)
theorem bytes_cut {w : World} {bl off : Nat} {c : Nat} {l : List UInt8} (hb : BytesAt w (.slice (some ⟨bl, off, none⟩) l.length c) l) (k x c2 : Nat) (h : k + x ≤ l.length) (hc : x ≤ c2) : BytesAt w (.slice (some ⟨bl, off + k, none⟩) x c2) ((l.drop k).take x) := by
  obtain ⟨a, c', e, _, _, h4⟩ := hb
  cases e
  refine ⟨some ⟨bl, off + k, none⟩, c2, by simp; omega, by simp; omega, fun h => (by cases h), fun i b hi => ?_⟩
  rw [List.getElem?_take] at hi
  split at hi
  · rw [List.getElem?_drop] at hi
    obtain ⟨bl', off', e, hcell⟩ := h4 (k + i) b hi
    cases e
    exact ⟨bl, off + k, rfl, by rw [Nat.add_assoc]; exact hcell⟩
  · cases hi
set_option maxRecDepth 100000 in
set_option maxHeartbeats 1000000 in
theorem within_any {w : World} (sv : Value) (l : List UInt8) (hb : BytesAt w sv l) (hlen : l.length ≤ 1073741824) (at_ x : Int) (ha : -4611686018427387904 ≤ at_ ∧ at_ ≤ 4611686018427387904) (pa : Nat) (hp : w.heap[pa]? = some (.cells #[.int .u64 0] 32)) (hap : ∀ ad n c, sv = .slice (some ad) n c → ad.block ≠ pa) :
    Calls Tryz.prog 81 #[sv, .int .i64 at_, .int .i64 x, fnv 82 #[.pointer (some ⟨pa, 0, none⟩)]] w fun r w' => r = .returned (.int .i64 (loadF l at_ x).2) ∧ w'.heap[pa]? = some (.cells #[.int .u64 (loadF l at_ x).1] 32) ∧ Moved (fun b => b = pa) w w' := by
  have HB0 := Lib.hid hb
  have HA := Lib.hid hap
  have HP := Lib.hid hp
  obtain ⟨a, c, rfl, hcell⟩ := hb
  have hc := hcell.1
  have HC := Lib.hid hcell.2.2
  clear hap hcell hp
  unfold loadF
  by_cases hx : isW x = true
  · rw [if_pos hx]
    have HX := Lib.hid hx
    by_cases hr : at_ < 0 ∨ at_ > l.length - x
    · rw [if_pos hr]
      have hx1 : 1 ≤ x ∧ x ≤ 8 := by rcases isW_cases hx with rfl | rfl | rfl | rfl <;> omega
      go_enter Tryz.func81, Tryz.ntmps81
      go_wp2_with fail
      refine (leis_any x _).mono ?_
      rw [HX.out]
      rintro r w1 ⟨rfl, rfl⟩
      by_cases h0 : at_ < 0
      · go_wp2
        go_ret
        exact ⟨rfl, HP.out, Moved.refl _ _⟩
      · have h1 : (l.length : Int) - x < at_ := by omega
        go_wp2
        go_ret
        exact ⟨rfl, HP.out, Moved.refl _ _⟩
    · rw [if_neg hr]
      have hx1 : 1 ≤ x ∧ x ≤ 8 := by rcases isW_cases hx with rfl | rfl | rfl | rfl <;> omega
      obtain ⟨k, rfl⟩ := Int.eq_ofNat_of_zero_le (show 0 ≤ at_ by omega)
      obtain ⟨y, rfl⟩ := Int.eq_ofNat_of_zero_le (show 0 ≤ x by omega)
      have hky : k + y ≤ l.length := by omega
      obtain ⟨bl, off, rfl, _⟩ := HC.out 0 l[0] (List.getElem?_eq_getElem (by omega))
      go_enter Tryz.func81, Tryz.ntmps81
      go_wp2_with fail
      refine (leis_any y _).mono ?_
      rw [HX.out]
      rintro r w1 ⟨rfl, rfl⟩
      go_wp2_with fail
      refine (load1_any _ ((l.drop k).take y) (bytes_cut HB0.out k y (c - k) hky (by omega)) (by simp; omega) pa HP.out (fun ad n c' e => by cases e; exact HA.out ⟨bl, off, none⟩ _ _ rfl)).mono ?_
      rintro r w2 ⟨rfl, hrow, hm⟩
      have HR := Lib.hid hrow
      have HM := Lib.hid hm
      clear hrow hm
      go_wp2
      go_ret
      exact ⟨rfl, by simpa using HR.out, HM.out⟩
  · rw [if_neg hx]
    have HX := Lib.hid (show isW x = false by simpa using hx)
    clear hx
    go_enter Tryz.func81, Tryz.ntmps81
    go_wp2_with fail
    refine (leis_any x _).mono ?_
    rw [HX.out]
    rintro r w1 ⟨rfl, rfl⟩
    go_wp2
    go_ret
    exact ⟨rfl, HP.out, Moved.refl _ _⟩
end Go.Proofs.YtjnpcddbgfmpcaaGreat

/-
  Package le: LoadInt.
-/
namespace Go.Proofs.YtjnpcddbgfmpcaaGreat
open Go Go.ChangeShapes Go.WideShapes Go.ChangeAt Go.RowKit Go.Joins
set_option linter.unusedVariables false
set_option linter.unusedSimpArgs false
end Go.Proofs.YtjnpcddbgfmpcaaGreat

/-
  Vectors: the law's helpers.
-/
namespace Go.Proofs.YtjnpcddbgfmpcaaGreat
open Go Go.ChangeShapes Go.WideShapes Go.ChangeAt Go.RowKit Go.Joins
set_option linter.unusedVariables false
set_option linter.unusedSimpArgs false
theorem bringL_any (i n : Int) (w : World) (hn : 0 < n) (hn2 : n ≤ 1099511627776) : Calls Tryz.prog 9 #[.int .i64 i, .int .i64 n] w fun r w' => r = .returned (.int .i64 (i % n)) ∧ w' = w := by
  obtain ⟨b1, b2, b3, b4⟩ := bring_eq i n hn
  have B1 := Lib.hid b1
  have B2 := Lib.hid b2
  clear b1 b2
  go_enter Tryz.func9, Tryz.ntmps9
  go_wp2
  · go_ret
    refine ⟨ret_int ?_, rfl⟩
    exact B1.out (by assumption)
  · go_ret
    exact ⟨ret_int (B2.out (by assumption)), rfl⟩
end Go.Proofs.YtjnpcddbgfmpcaaGreat

/-
  Vectors: the law's filled buffer.
-/
namespace Go.Proofs.YtjnpcddbgfmpcaaGreat
open Go Go.ChangeShapes Go.WideShapes Go.ChangeAt Go.RowKit Go.Joins
set_option linter.unusedVariables false
set_option linter.unusedSimpArgs false
end Go.Proofs.YtjnpcddbgfmpcaaGreat

/-
  Vectors: the law's value.
-/
namespace Go.Proofs.YtjnpcddbgfmpcaaGreat
open Go Go.ChangeShapes Go.WideShapes Go.ChangeAt Go.RowKit Go.Joins
open Go.Proofs.YtjnpcddbgfmpcaaGreat.Ft (V3 vV okV ValsAt inlineB legalB packF codeF typedF allF)
set_option linter.unusedVariables false
set_option linter.unusedSimpArgs false
end Go.Proofs.YtjnpcddbgfmpcaaGreat

/-
  Vectors: the law's values.
-/
namespace Go.Proofs.YtjnpcddbgfmpcaaGreat
open Go Go.ChangeShapes Go.WideShapes Go.ChangeAt Go.RowKit Go.Joins
open Go.Proofs.YtjnpcddbgfmpcaaGreat.Ft (V3 vV okV ValsAt inlineB legalB packF codeF typedF allF)
set_option linter.unusedVariables false
set_option linter.unusedSimpArgs false
def cellsV (v : V3) : List Value := [.int .i64 v.1, .int .i64 v.2.1, .int .u64 v.2.2]
def valCells (l : List V3) : List Value := l.flatMap cellsV
theorem length_valCells (l : List V3) : (valCells l).length = l.length * 3 := by
  induction l with
  | nil => rfl
  | cons v r ih => 
    have : valCells (v :: r) = cellsV v ++ valCells r := rfl
    rw [this, List.length_append, ih, List.length_cons]
    show 3 + _ = _
    omega
theorem valCells_append (l m : List V3) : valCells (l ++ m) = valCells l ++ valCells m := by simp [valCells]
theorem valCells_get (l : List V3) (i : Nat) (v : V3) (h : l[i]? = some v) : (valCells l)[i * 3]? = some (.int .i64 v.1) ∧ (valCells l)[i * 3 + 1]? = some (.int .i64 v.2.1) ∧ (valCells l)[i * 3 + 2]? = some (.int .u64 v.2.2) := by
  induction l generalizing i with
  | nil => simp at h
  | cons u r ih =>
    have e : valCells (u :: r) = .int .i64 u.1 :: .int .i64 u.2.1 :: .int .u64 u.2.2 :: valCells r := rfl
    rw [e]
    cases i with
    | zero => simp at h; subst h; simp
    | succ i =>
      have h2 := ih i (by simpa using h)
      rw [show (i + 1) * 3 = i * 3 + 1 + 1 + 1 by omega, show i * 3 + 1 + 1 + 1 + 1 = (i * 3 + 1) + 1 + 1 + 1 by omega, show i * 3 + 1 + 1 + 1 + 2 = (i * 3 + 2) + 1 + 1 + 1 by omega]
      simpa only [List.getElem?_cons_succ] using h2
def OwnVals (w : World) (B : Nat) (v : Value) (l : List V3) : Prop := w.ownsRow B 92 3 v l.length (valCells l)
theorem OwnVals.vals {w : World} {B : Nat} {v : Value} {l : List V3} (h : OwnVals w B v l) : ValsAt w v l := by
  have h0 := h
  obtain ⟨_, h2⟩ := h
  rcases h2 with ⟨rfl, hn⟩ | ⟨g, cap, cur, rfl, _, _, hn, _⟩
  · have : l = [] := List.length_eq_zero_iff.1 hn
    subst this
    exact ⟨none, 0, rfl, fun i x hx => by simp at hx⟩
  · refine ⟨some ⟨g, 0, none⟩, cap, rfl, fun i x hx => ⟨g, 0, rfl, ?_⟩⟩
    have hi := (List.getElem?_eq_some_iff.1 hx).1
    obtain ⟨e0, e1, e2⟩ := valCells_get l i x hx
    have hc := World.ownsRow.cells h0 rfl
    have a : ∀ j, (⟨g, 0, none⟩ : Addr).add j = ⟨g, 0 + j, none⟩ := by
      intro j
      unfold Addr.add
      split
      · rename_i h; subst h; rfl
      · rfl
    have c0 := hc _ _ e0
    have c1 := hc _ _ e1
    have c2 := hc _ _ e2
    rw [a] at c0 c1 c2
    exact ⟨c0, c1, c2⟩
def PairsAt (w : World) (v : Value) (l : List (Int × Int)) : Prop :=
  ∃ a c, v = .slice a l.length c ∧ ∀ (i : Nat) (x : Int × Int), l[i]? = some x → ∃ b off, a = some ⟨b, off, none⟩ ∧ w.cell? ⟨b, off + i * 2, none⟩ = some (.int .i64 x.1) ∧ w.cell? ⟨b, off + i * 2 + 1, none⟩ = some (.int .i64 x.2)
theorem PairsAt.grew {w w' : World} {v : Value} {l : List (Int × Int)} (h : PairsAt w v l) (hg : Grew w w') : PairsAt w' v l := by
  obtain ⟨a, c, h1, h2⟩ := h
  refine ⟨a, c, h1, fun i x hx => ?_⟩
  obtain ⟨b, off, e, c0, c1⟩ := h2 i x hx
  exact ⟨b, off, e, hg.cell c0, hg.cell c1⟩
theorem Tryz.infoVal : (Tryz.prog.info? 92).map (fun i => (i.zero, i.size, i.bytes)) = some (some (.agg #[.int .i64 0, .int .i64 0, .int .u64 0]), 3, 24) := by kernel_rfl
theorem val_parts : ∃ i0, Tryz.prog.info? 92 = some i0 ∧ i0.zero = some (.agg #[.int .i64 0, .int .i64 0, .int .u64 0]) ∧ i0.size = 3 ∧ i0.bytes = 24 := by
  have h := Tryz.infoVal
  cases hq : Tryz.prog.info? 92 with
  | none => simp [hq] at h
  | some i => simp [hq] at h; exact ⟨i, rfl, h.1, h.2.1, h.2.2⟩
theorem vals_cells {w : World} {ad : Addr} {cap : Nat} {l : List V3} (h : ValsAt w (.slice (some ad) l.length cap) l) : ∀ j u, (valCells l)[j]? = some u → w.cell? (ad.add j) = some u := by
  obtain ⟨a0, c0, e, hc⟩ := h
  cases e
  intro j u hj
  have hjl : j < l.length * 3 := by rw [← length_valCells]; exact (List.getElem?_eq_some_iff.1 hj).1
  have hd : j / 3 < l.length := by omega
  have hq : j = j / 3 * 3 ∨ j = j / 3 * 3 + 1 ∨ j = j / 3 * 3 + 2 := by omega
  obtain ⟨x, hx⟩ : ∃ x, l[j / 3]? = some x := ⟨_, List.getElem?_eq_getElem hd⟩
  obtain ⟨b, off, e, d0, d1, d2⟩ := hc (j / 3) x hx
  cases e
  obtain ⟨e0, e1, e2⟩ := valCells_get l (j / 3) x hx
  generalize j / 3 = q at *
  have : (⟨b, off, none⟩ : Addr).add j = ⟨b, off + j, none⟩ := by
    unfold Addr.add
    split
    · rename_i h; subst h; rfl
    · rfl
  rw [this]
  rcases hq with h | h | h
  · rw [h] at hj; rw [e0] at hj; cases hj; rw [h]; exact d0
  · rw [h] at hj; rw [e1] at hj; cases hj; rw [h]; exact d1
  · rw [h] at hj; rw [e2] at hj; cases hj; rw [h]; exact d2
theorem valCells_one (l : List V3) : ∀ u ∈ valCells l, u.oneCell' = true := by
  intro u hu
  simp only [valCells, List.mem_flatMap, cellsV, List.mem_cons, List.not_mem_nil, or_false] at hu
  obtain ⟨x, _, rfl | rfl | rfl⟩ := hu <;> rfl
theorem wpList_appendV {ops : Array Oper} {rest : List Oper} {o : Oper} {a : Act} {w : World} {Q : Exit → Act → World → Prop} (hgd : o.guard = none) (s x : Operand)
    (ho : o.op = .call { callee := .builtin .append, args := #[s, x], argTypes := #[51, 51] }) (B : Nat) (v : Value) (l : List V3) (hs : a.eval s = v) (hown : OwnVals w B v l)
    (sv : Value) (l2 : List V3) (hx : a.eval x = sv) (hsv : ValsAt w sv l2) (hnil : ∀ c, sv = .slice none 0 c → c = 0) (hlen : l.length + l2.length ≤ 1048576) (hB : B ≤ w.heap.size)
    (h : ∀ v' w', OwnVals w' B v' (l ++ l2) → w.grownBy w' v.ownBlock → Next w v.ownBlock v'.ownBlock → wpList Tryz.prog ops Q rest (a.put o.dst v') w') : wpList Tryz.prog ops Q (o :: rest) a w := by
  obtain ⟨i0, hi, hz0, hz1, hz2⟩ := val_parts
  have hsv0 := hsv
  obtain ⟨sa, cap, rfl, hc⟩ := hsv
  cases sa with
  | none =>
    have h0 : l2 = [] := by
      cases l2 with
      | nil => rfl
      | cons y r => obtain ⟨b, off, e, _⟩ := hc 0 y rfl; cases e
    subst h0
    have := hnil cap rfl
    subst this
    refine wpList_append_own_none hgd s x 51 ho B 92 i0 3 Tryz.underlying51 hi v l.length _ hs hown hx ?_
    exact h v w (by rw [List.append_nil]; exact hown) ⟨rfl, rfl, rfl, Nat.le_refl _, fun _ _ _ => rfl⟩ (Next.refl _ _)
  | some ad =>
    obtain ⟨v', w', hr, h2, h3, h4⟩ := append_next (P := Tryz.prog) w B 51 o.type 92 i0 (.agg #[.int .i64 0, .int .i64 0, .int .u64 0]) 3 24 Tryz.underlying51 hi hz0 hz1 hz2 rfl (by decide) v l.length _ hown ad l2.length cap (valCells l2) (length_valCells l2) (vals_cells hsv0) (valCells_one l2) (by unfold maxLen; omega) (by omega) hB
    refine wpList_plain hgd fun _ hK => Lib.wp_append_run w s x 51 51 ho v _ hs hx v' w' hr (hK _ _ (h v' w' ?_ h3 h4))
    unfold OwnVals
    rw [List.length_append, valCells_append]
    exact h2
theorem own_grew {w w' : World} {B : Nat} {v : Value} {l : List V3} (h : OwnVals w B v l) (hg : Grew w w') : OwnVals w' B v l := Moved.owns (Moved.of_grew (S := fun _ => False) hg) h (fun _ _ h => h)
theorem vals_new (w : World) (x : V3) : ValsAt (w.alloc (.cells #[.int .i64 x.1, .int .i64 x.2.1, .int .u64 x.2.2] 92)) (.slice (some ⟨w.heap.size, 0, none⟩) 1 1) [x] := by
  have h := heap_alloc_new w (.cells #[.int .i64 x.1, .int .i64 x.2.1, .int .u64 x.2.2] 92)
  refine ⟨_, 1, rfl, fun i y hy => ?_⟩
  have hi : i = 0 := by have := (List.getElem?_eq_some_iff.1 hy).1; simp at this; omega
  subst hi
  simp at hy
  subst hy
  exact ⟨_, _, rfl, row_cell h 0 _ rfl, row_cell h 1 _ rfl, row_cell h 2 _ rfl⟩
theorem own_form {w : World} {B : Nat} {v : Value} {l : List V3} (h : OwnVals w B v l) : ∃ a c, v = .slice a l.length c ∧ (a = none → c = 0) := by
  rcases h.2 with ⟨rfl, hn⟩ | ⟨g, cap, cur, rfl, _, _, hn, _⟩
  · exact ⟨none, 0, by rw [hn], fun _ => rfl⟩
  · exact ⟨_, cap, rfl, fun h => by cases h⟩
theorem grew_own {w wr w' : World} {v : Value} {l : List V3} (h : OwnVals wr w.heap.size v l) (hg : Grew w wr) (hgr : wr.grownBy w' v.ownBlock) : Grew w w' := by
  have hgr2 : Moved (fun k => some k = v.ownBlock) wr w' := Moved.of_grown hgr
  refine ⟨hgr2.os.trans hg.os, hgr2.tape.trans hg.tape, hgr2.output.trans hg.output, Nat.le_trans hg.size hgr2.size, fun k hk => ?_⟩
  refine (hgr2.block k (Nat.lt_of_lt_of_le hk hg.size) fun e => ?_).trans (hg.block k hk)
  rcases h.2 with ⟨rfl, hn⟩ | ⟨g, cap, cur, rfl, hb, _, _⟩
  · cases e
  · have : k = g := by injection e
    omega
end Go.Proofs.YtjnpcddbgfmpcaaGreat

/-
  Package vec: Put's ways out ahead of the values.
-/
namespace Go.Proofs.YtjnpcddbgfmpcaaGreat
open Go Go.ChangeShapes Go.WideShapes Go.ChangeAt Go.RowKit Go.Joins
open Go.Proofs.YtjnpcddbgfmpcaaGreat.Ft (V3 vV okV ValsAt inlineB legalB packF codeF typedF allF)
set_option linter.unusedVariables false
set_option linter.unusedSimpArgs false
theorem shaped_x (elem many : Int) (hkd : (typedF elem many).2 = false) (hne : ¬ (elem = -1 ∧ many = 0)) (w : World) : Calls Tryz.prog 171 #[.int .i64 elem, .int .i64 many] w fun r w' => r = .returned (.tuple #[.agg #[.int .i64 0, .bool false, .nilFunc, .nilFunc], .int .i64 20]) ∧ Grew w w' := by
  refine (shaped_ty elem many hne w).mono ?_
  rintro r w' ⟨rfl, hg, _⟩
  refine ⟨?_, hg⟩
  unfold shapeT
  rw [hkd]
  rfl
set_option maxHeartbeats 1000000 in
theorem put_no (elem many : Int) (hkd : (typedF elem many).2 = false) (hne : ¬ (elem = -1 ∧ many = 0)) {B : Nat} {w : World} {p : Nat} {o : Option Nat} {most : Int} (s : St) (lv : Value) (l : List V3) (h : BufAt B w p o s.1 most s.2) (hB : B ≤ w.heap.size) (hv : ValsAt w lv l) (hlen : l.length ≤ 1048576) (hs : s.2 = 0) :
    Calls Tryz.prog 115 #[bptr p, .int .i64 elem, .int .i64 many, lv] w fun r w' => r = .returned (putV ((0, 0, 0), 20)) ∧ TurnB B w w' p o most s := by
  have HB0 := Lib.hid h
  obtain ⟨a, c, rfl, hcell⟩ := hv
  clear h hcell
  go_enter Tryz.func115, Tryz.ntmps115
  go_wp2_with fail
  refine (err_any (HB0.out.grew ((Grew.refl w).alloc _))).mono ?_
  rw [hs]
  rintro r w1 ⟨rfl, rfl⟩
  go_wp2_with fail
  refine (shaped_x elem many hkd hne _).mono ?_
  clear hkd hne
  rintro r w1 ⟨rfl, hg⟩
  have hb : w1.heap[w.heap.size]? = some (.cells #[.int .i64 0, .int .i64 0, .int .u64 0] 92) := hg.heap (heap_alloc_new _ _)
  have HR := Lib.hid hb
  have HG0 : Hid (Grew w w1) := ((Grew.refl w).alloc _).trans hg
  clear hb hg
  go_wp2_with fail
  go_loopw [12, 13] (fun e i wr => i = .int .i64 0 ∧ e = .int .i64 20 ∧ Hid (Grew w wr ∧ wr.heap[w.heap.size]? = some (.cells #[.int .i64 0, .int .i64 0, .int .u64 0] 92))) (fun _ _ _ => 0)
  case atStart =>
    refine ⟨rfl, rfl, ?_⟩
    show _ ∧ _
    exact ⟨HG0.out.alloc _, ((Grew.refl w1).alloc _).heap HR.out⟩
  case round =>
    obtain ⟨rfl, rfl, HW⟩ := hrel
    obtain ⟨hgw, hrow⟩ := HW.out
    have HG := Lib.hid hgw
    clear hgw HW
    have f0 := row_frozen hrow 0
    have f1 := row_frozen hrow 1
    have f2 := row_frozen hrow 2
    have c0 := row_cell hrow 0 _ rfl
    have c1 := row_cell hrow 1 _ rfl
    have c2 := row_cell hrow 2 _ rfl
    clear hrow
    go_wp2
    all_goals
      refine bodyPost_ret (v := putV ((0, 0, 0), 20)) ?_ rfl ⟨rfl, ?_⟩
      · simp [results, Tryz.results115, go_sem, c0, c1, c2, putV, vV]
      · exact (TurnB.refl HB0.out).grew ((((HG.out).setCell (Nat.le_refl _) _).setCell (Nat.le_refl _) _).setCell (Nat.le_refl _) _)
end Go.Proofs.YtjnpcddbgfmpcaaGreat

/-
  Vectors: the law's puts.
-/
namespace Go.Proofs.YtjnpcddbgfmpcaaGreat
open Go Go.ChangeShapes Go.WideShapes Go.ChangeAt Go.RowKit Go.Joins
open Go.Proofs.YtjnpcddbgfmpcaaGreat.Ft (V3 vV okV ValsAt inlineB legalB packF codeF typedF allF)
set_option linter.unusedVariables false
set_option linter.unusedSimpArgs false
def Puts (elem many : Int) (lv : Value) (l : List V3) (most : Int) (s : St) (q : V3 × Int) (s' : St) : Prop :=
  ∀ (B : Nat) (w : World) (p : Nat) (o : Option Nat), BufAt B w p o s.1 most s.2 → B ≤ w.heap.size → ValsAt w lv l → (∀ ad n c, lv = .slice (some ad) n c → ad.block < w.heap.size ∧ ¬ Own2 p o ad.block) →
    Calls Tryz.prog 115 #[bptr p, .int .i64 elem, .int .i64 many, lv] w fun r w' => r = .returned (putV q) ∧ TurnB B w w' p o most s'
end Go.Proofs.YtjnpcddbgfmpcaaGreat

/-
  Vectors: the examples of the law.
-/
namespace Go.Proofs.YtjnpcddbgfmpcaaGreat
open Go Go.ChangeShapes Go.WideShapes Go.ChangeAt Go.RowKit Go.Joins
open Go.Proofs.YtjnpcddbgfmpcaaGreat.Ft (V3 vV okV ValsAt inlineB legalB packF codeF typedF allF)
set_option linter.unusedVariables false
set_option linter.unusedSimpArgs false
section
variable {lv : Value} {l : List V3} {most : Int} {s : St}
theorem Puts.no (elem many : Int) (hkd : (typedF elem many).2 = false) (hne : ¬ (elem = -1 ∧ many = 0)) (hlen : l.length ≤ 1048576) (hs : s.2 = 0) : Puts elem many lv l most s ((0, 0, 0), 20) s := by
  intro B w p o hb hB hv hap
  exact put_no elem many hkd hne s lv l hb hB hv hlen hs
end
end Go.Proofs.YtjnpcddbgfmpcaaGreat

/-
  The plain law of a vector's encoding: what Put appends, and when the room suffices.
-/
namespace Go.Proofs.YtjnpcddbgfmpcaaGreat
open Go Go.ChangeShapes Go.WideShapes Go.ChangeAt Go.RowKit Go.Joins
open Go.Proofs.YtjnpcddbgfmpcaaGreat.Ft (V3 vV okV ValsAt inlineB legalB packF codeF typedF allF allAt headF fitsL fitsV fitsF belowW isA)
set_option linter.unusedVariables false
set_option linter.unusedSimpArgs false
section
variable {most x u : Int} {y : List UInt8} {s : St} {v : V3}
end
def encN (x p : Int) (v : V3) : Int := if inlineB v.1 then lowF v.2.2 x else p - v.2.2
def encL (x : Int) : Int → List V3 → List (List UInt8)
  | _, [] => []
  | p, v :: r => digB x.toNat (encN x p v).toNat :: encL x (p + x) r
def fitE (x : Int) : Int → List V3 → Prop
  | _, [] => True
  | p, v :: r => (0 ≤ encN x p v ∧ encN x p v < 2 ^ (8 * x.toNat)) ∧ fitE x (p + x) r
theorem isW_pos {x : Int} (hx : isW x = true) : 1 ≤ x ∧ x ≤ 8 := by
  rcases isW_cases hx with rfl | rfl | rfl | rfl <;> decide
theorem pad_eq {x : Int} (hx : isW x = true) (b : List UInt8) : (b.length : Int) + padN b x = ((b.length : Int) + x - 1) / x * x := by
  unfold padN
  rcases isW_cases hx with rfl | rfl | rfl | rfl <;> omega
theorem length_encL {x : Int} (hx : isW x = true) : ∀ (l : List V3) (p : Int), ((encL x p l).flatten.length : Int) = x * l.length
  | [], p => by simp [encL]
  | v :: r, p => by
    have h := length_encL hx r (p + x)
    have hp := isW_pos hx
    simp only [encL, List.flatten_cons, List.length_append, length_digB, List.length_cons]
    have e : x * ((r.length + 1 : Nat) : Int) = x * r.length + x := by rw [Int.natCast_add, Int.mul_add]; simp
    rw [e]
    omega
theorem low_lt (n x : Int) : 0 ≤ lowF n x ∧ lowF n x < 2 ^ (8 * x.toNat) := by
  unfold lowF
  have h : (0 : Int) < 2 ^ (8 * x.toNat) := Int.pow_pos (by decide)
  exact ⟨Int.emod_nonneg _ (by omega), Int.emod_lt_of_pos _ h⟩
theorem fitE_of {x at_ : Int} (hx : isW x = true) : ∀ (l : List V3) (i p : Int), p = (at_ + x - 1) / x * x + i * x → 0 ≤ i → fitsL l at_ i x = true → fitE x p l
  | [], _, _, _, _, _ => trivial
  | v :: r, i, p, hp, hi, h => by
    have hw := isW_pos hx
    have h1 : fitsV v at_ i x = true := by
      have : (fitsV v at_ i x && fitsL r at_ (i + 1) x) = true := h
      simp at this; exact this.1
    have h2 : fitsL r at_ (i + 1) x = true := by
      have : (fitsV v at_ i x && fitsL r at_ (i + 1) x) = true := h
      simp at this; exact this.2
    have hs : p + x = (at_ + x - 1) / x * x + (i + 1) * x := by rw [hp, Int.add_mul]; omega
    refine ⟨?_, fitE_of hx r (i + 1) (p + x) hs (by omega) h2⟩
    unfold encN
    split
    · exact low_lt _ _
    · rename_i hn
      unfold fitsV fitsF at h1
      rw [if_neg hn] at h1
      simp only [Bool.and_eq_true, decide_eq_true_eq, belowW] at h1
      have hge : at_ ≤ (at_ + x - 1) / x * x := by rcases isW_cases hx with rfl | rfl | rfl | rfl <;> omega
      have hix : 0 ≤ i * x := Int.mul_nonneg hi (by omega)
      rw [hp]
      exact ⟨by omega, h1.2⟩
def pieces (x : Int) (len tagged : Bool) (b : List UInt8) (l : List V3) : List (List UInt8) :=
  zeros (padN b x) :: (if len then [digB x.toNat l.length] else []) ++ encL x ((b.length : Int) + padN b x + (if len then x else 0)) l ++ (if tagged then l.map fun v => [tagB x v] else [])
theorem leastOf_holds {p : Int → Bool} (h : Ft.leastOf p ≠ 0) : p (Ft.leastOf p) = true := by
  revert h
  unfold Ft.leastOf
  repeat' split
  all_goals simp_all
theorem leastOf_ok {p : Int → Bool} (h : p 8 = true) : Ft.leastOf p ≠ 0 := by
  unfold Ft.leastOf
  repeat' split
  all_goals simp_all
def Near (n : Int) (v : V3) : Prop := legalE v = 0 ∧ okV v ∧ (inlineB v.1 = true → v.2.1 ≤ 8) ∧ (inlineB v.1 = false → v.2.2 ≤ n)
theorem fits_near {n : Int} : ∀ (l : List V3) (i : Int), (∀ v ∈ l, Near n v) → 0 ≤ n → 0 ≤ i → n + 8 + (i + l.length) * 8 < 18446744073709551616 → fitsL l n i 8 = true
  | [], _, _, _, _, _ => rfl
  | v :: r, i, h, hn, hi, hb => by
    have hv := h v (by simp)
    obtain ⟨_, ho, h1, h2⟩ := hv
    have hc : ((v :: r).length : Int) = r.length + 1 := by simp
    rw [hc] at hb
    have e : fitsL (v :: r) n i 8 = (fitsV v n i 8 && fitsL r n (i + 1) 8) := rfl
    rw [e, fits_near r (i + 1) (fun u hu => h u (by simp [hu])) hn (by omega) (by omega), Bool.and_true]
    unfold fitsV fitsF
    cases hi2 : inlineB v.1 with
    | true => simp; exact h1 hi2
    | false =>
      have := h2 hi2
      have h0 := ho.1
      simp only [Bool.false_eq_true, if_false, Bool.and_eq_true, decide_eq_true_eq, belowW]
      refine ⟨this, ?_⟩
      show (n + 8 - 1) / 8 * 8 + i * 8 - v.2.2 < 2 ^ (8 * (8 : Int).toNat)
      have : (2 : Int) ^ (8 * (8 : Int).toNat) = 18446744073709551616 := by decide
      omega
theorem allF_near {n ahead : Int} {l : List V3} (ha : ahead = 0 ∨ ahead = 1) (hn : 0 ≤ n) (hn2 : n ≤ 1048576) (hl : l.length ≤ 1048576) (h : ∀ v ∈ l, Near n v) :
    allF l (0, 0, 0) n ahead = Ft.leastOf (fun v => allAt l (0, 0, 0) n ahead v) ∧ allF l (0, 0, 0) n ahead ≠ 0 ∧ isW (allF l (0, 0, 0) n ahead) = true ∧ allAt l (0, 0, 0) n ahead (allF l (0, 0, 0) n ahead) = true := by
  have hA : isA ahead := by rcases ha with rfl | rfl <;> simp [isA]
  have e : allF l (0, 0, 0) n ahead = Ft.leastOf (fun v => allAt l (0, 0, 0) n ahead v) := by
    unfold allF
    rw [if_pos ⟨⟨hn, by omega⟩, hA, hl⟩]
  have h8 : allAt l (0, 0, 0) n ahead 8 = true := by
    unfold allAt
    rw [fits_near l ahead h hn (by omega) (by omega), Bool.and_true]
    unfold headF
    have : (ahead == 3) = false := by rcases ha with rfl | rfl <;> rfl
    rw [this]
    have hb : belowW l.length 8 = true := by unfold belowW; rw [decide_eq_true_eq]; have : (2 : Int) ^ (8 * (8 : Int).toNat) = 18446744073709551616 := by decide
                                             omega
    rw [hb]
    simp
  have h0 : allF l (0, 0, 0) n ahead ≠ 0 := by rw [e]; exact leastOf_ok h8
  refine ⟨e, h0, allF_isW h0, ?_⟩
  have := leastOf_holds (p := fun v => allAt l (0, 0, 0) n ahead v) (by rw [← e]; exact h0)
  rw [← e] at this
  exact this
end Go.Proofs.YtjnpcddbgfmpcaaGreat

/-
  Vectors: the law's values are near; half of the least width does not fit.
-/
namespace Go.Proofs.YtjnpcddbgfmpcaaGreat
open Go Go.ChangeShapes Go.WideShapes Go.ChangeAt Go.RowKit Go.Joins
open Go.Proofs.YtjnpcddbgfmpcaaGreat.Ft (V3 vV okV ValsAt inlineB legalB packF codeF typedF allF allAt headF fitsL fitsV fitsF belowW isA)
set_option linter.unusedVariables false
set_option linter.unusedSimpArgs false
theorem wrapU_range (n : Int) : 0 ≤ IntKind.u64.wrap n ∧ IntKind.u64.wrap n ≤ 18446744073709551615 := by
  rw [IntKind.wrap_u64]; omega
end Go.Proofs.YtjnpcddbgfmpcaaGreat

/-
  Vectors: what is read back of the encoding.
-/
namespace Go.Proofs.YtjnpcddbgfmpcaaGreat
open Go Go.ChangeShapes Go.WideShapes Go.ChangeAt Go.RowKit Go.Joins
open Go.Proofs.YtjnpcddbgfmpcaaGreat.Ft (V3 vV okV ValsAt inlineB legalB packF codeF typedF allF allAt headF fitsL fitsV fitsF belowW isA unpackF)
set_option linter.unusedVariables false
set_option linter.unusedSimpArgs false
theorem digB_succ (n u : Nat) : digB (n + 1) u = UInt8.ofNat (u % 256) :: digB n (u / 256) := by
  unfold digB
  rw [List.range_succ_eq_map, List.map_cons, List.map_map]
  simp only [Nat.pow_zero, Nat.div_one]
  congr 1
  apply List.map_congr_left
  intro i _
  simp only [Function.comp, Nat.succ_eq_add_one]
  rw [Nat.pow_succ, Nat.mul_comm (256 ^ i) 256, ← Nat.div_div_eq_div_mul]
theorem leF_digB : ∀ (n u : Nat), u < 256 ^ n → leF (digB n u) = u
  | 0, u, h => by
    have : u = 0 := by simpa using h
    subst this
    simp [digB, leF]
  | n + 1, u, h => by
    rw [digB_succ]
    show ((UInt8.ofNat (u % 256)).toNat : Int) + 256 * leF (digB n (u / 256)) = u
    rw [leF_digB n (u / 256) (by rw [Nat.pow_succ] at h; omega), UInt8.toNat_ofNat']
    omega
theorem pow_256 {x : Int} (hx : isW x = true) : (256 : Nat) ^ x.toNat = (2 ^ (8 * x.toNat) : Int) := by
  rcases isW_cases hx with rfl | rfl | rfl | rfl <;> decide
theorem loadF_at {X A C : List UInt8} {x u at_ : Int} (hx : isW x = true) (hX : X = A ++ digB x.toNat u.toNat ++ C) (hA : (A.length : Int) = at_) (h0 : 0 ≤ u) (h1 : u < 2 ^ (8 * x.toNat)) : loadF X at_ x = (u, 0) := by
  have hp := isW_pos hx
  subst hX
  unfold loadF
  rw [if_pos hx, if_neg (by rw [List.length_append, List.length_append, length_digB]; omega)]
  have e : (((A ++ digB x.toNat u.toNat ++ C).drop at_.toNat).take x.toNat) = digB x.toNat u.toNat := by
    rw [← hA, show ((A.length : Int)).toNat = A.length by omega, List.append_assoc, List.drop_left, List.take_left' (length_digB _ _)]
  rw [e, leF_digB _ _ (by have := pow_256 hx; omega)]
  rw [show (u.toNat : Int) = u by omega]
theorem encL_at {x : Int} (hx : isW x = true) : ∀ (l : List V3) (p : Int) (k : Nat) (v : V3), l[k]? = some v → ∃ A C, (encL x p l).flatten = A ++ digB x.toNat (encN x (p + k * x) v).toNat ++ C ∧ (A.length : Int) = k * x
  | [], _, _, _, h => by simp at h
  | u :: r, p, 0, v, h => by
    simp at h
    subst h
    exact ⟨[], (encL x (p + x) r).flatten, by simp [encL], by simp⟩
  | u :: r, p, k + 1, v, h => by
    have hp := isW_pos hx
    obtain ⟨A, C, h1, h2⟩ := encL_at hx r (p + x) k v (by simpa using h)
    refine ⟨digB x.toNat (encN x p u).toNat ++ A, C, ?_, ?_⟩
    · have e : p + x + (k : Int) * x = p + ((k + 1 : Nat) : Int) * x := by rw [Int.natCast_add, Int.add_mul]; simp; omega
      rw [e] at h1
      simp only [encL, List.flatten_cons, h1, List.append_assoc]
    · rw [List.length_append, length_digB, Int.natCast_add, h2, Int.natCast_add, Int.add_mul]
      simp; omega
theorem flatten_tags (x : Int) (l : List V3) : (l.map fun v => [tagB x v]).flatten = l.map (tagB x) := by
  induction l with
  | nil => rfl
  | cons v r ih => simp only [List.map_cons, List.flatten_cons, ih]; rfl
theorem fitsL_get : ∀ (l : List V3) (at_ i x : Int) (k : Nat) (v : V3), fitsL l at_ i x = true → l[k]? = some v → fitsV v at_ (i + k) x = true
  | [], _, _, _, _, _, _, h => by simp at h
  | u :: r, at_, i, x, 0, v, hf, h => by
    have : (fitsV u at_ i x && fitsL r at_ (i + 1) x) = true := hf
    simp at this h
    subst h
    simpa using this.1
  | u :: r, at_, i, x, k + 1, v, hf, h => by
    have : (fitsV u at_ i x && fitsL r at_ (i + 1) x) = true := hf
    simp only [Bool.and_eq_true] at this
    have h2 := fitsL_get r at_ (i + 1) x k v this.2 (by simpa using h)
    rw [show i + ((k + 1 : Nat) : Int) = i + 1 + k by omega]
    exact h2
structure Held (x p : Int) (tagged : Bool) (n : Nat) (X : List UInt8) (l : List V3) : Prop where
  head : X.take n = zeros n
  len : (X.length : Int) = p + x * l.length + (if tagged then (l.length : Int) else 0)
  elem : ∀ (k : Nat) (v : V3), l[k]? = some v → loadF X (p + k * x) x = (encN x (p + k * x) v, 0)
  tag : tagged = true → ∀ (k : Nat) (v : V3), l[k]? = some v → X[(p + l.length * x).toNat + k]? = some (tagB x v)
theorem fitE_get {x : Int} : ∀ (l : List V3) (p : Int) (k : Nat) (v : V3), fitE x p l → l[k]? = some v → 0 ≤ encN x (p + k * x) v ∧ encN x (p + k * x) v < 2 ^ (8 * x.toNat)
  | [], _, _, _, _, h => by simp at h
  | u :: r, p, 0, v, hf, h => by
    simp at h
    subst h
    simpa using hf.1
  | u :: r, p, k + 1, v, hf, h => by
    have h2 := fitE_get r (p + x) k v hf.2 (by simpa using h)
    have e : p + x + (k : Int) * x = p + ((k + 1 : Nat) : Int) * x := by rw [Int.natCast_add, Int.add_mul]; simp; omega
    rw [e] at h2
    exact h2
theorem held {n : Nat} {l : List V3} {x p : Int} {len tagged : Bool} (hn : n ≤ 1048576) (hl : l.length ≤ 1048576) (h : ∀ v ∈ l, Near n v) (hx : allF l (0, 0, 0) n (if len then 1 else 0) = x) (hp : ((zeros n).length : Int) + padN (zeros n) x + (if len then x else 0) = p) :
    isW x = true ∧ Held x p tagged n (zeros n ++ (pieces x len tagged (zeros n) l).flatten) l ∧ (p - (if len then x else 0)) % x = 0 ∧ (n : Int) ≤ p - (if len then x else 0) ∧ p - (if len then x else 0) < n + x ∧ (len = true → loadF (zeros n ++ (pieces x len tagged (zeros n) l).flatten) (p - x) x = ((l.length : Int), 0)) ∧ (∀ v ∈ l, inlineB v.1 = true → v.2.1 ≤ x) := by
  obtain ⟨_, x0, hw, hall⟩ := allF_near (n := n) (ahead := if len then 1 else 0) (by cases len <;> simp) (by omega) (by omega) hl h
  rw [hx] at hw hall
  have hwp := isW_pos hw
  have hfit : fitsL l n (if len then 1 else 0) x = true := by
    have h := hall
    unfold allAt at h
    simp only [Bool.and_eq_true] at h
    exact h.2
  have hzl : (zeros n).length = n := length_zeros n
  have hpad := padN_lt (l := zeros n) hw
  have hpe := pad_eq hw (zeros n)
  rw [hzl] at hp hpad hpe
  have hfe : fitE x p l := fitE_of hw l (if len then 1 else 0) p (by rw [← hp, hpe]; cases len <;> simp) (by cases len <;> simp) hfit
  have hlenf : len = true → (l.length : Int) < 2 ^ (8 * x.toNat) := by
    intro hl1
    subst hl1
    have h := hall
    unfold allAt headF at h
    simp only [Bool.and_eq_true, belowW] at h
    have := h.1.1
    simpa using this
  have hpieces : (pieces x len tagged (zeros n) l).flatten = (zeros (padN (zeros n) x) ++ (if len then digB x.toNat l.length else [])) ++ (encL x p l).flatten ++ (if tagged then l.map (tagB x) else []) := by
    unfold pieces
    rw [hzl, hp]
    cases len <;> cases tagged <;> simp [flatten_tags]
  have hAl : ((zeros n ++ (zeros (padN (zeros n) x) ++ (if len then digB x.toNat l.length else []))).length : Int) = p := by
    rw [← hp]
    cases len <;> simp [length_zeros, length_digB] <;> omega
  have hEl := length_encL hw l p
  refine ⟨hw, ⟨?_, ?_, ?_, ?_⟩, ?_, ?_, ?_, ?_, ?_⟩
  · exact List.take_left' hzl
  · rw [hpieces]
    rw [← List.append_assoc, ← List.append_assoc, List.length_append, List.length_append]
    cases tagged
    · simp only [Bool.false_eq_true, if_false, List.length_nil] at hAl ⊢; omega
    · simp only [if_true, List.length_map] at hAl ⊢; omega
  · intro k v hk
    obtain ⟨A, C, hA, hAk⟩ := encL_at hw l p k v hk
    have hb := fitE_get l p k v hfe hk
    refine loadF_at (A := zeros n ++ (zeros (padN (zeros n) x) ++ (if len then digB x.toNat l.length else [])) ++ A) (C := C ++ (if tagged then l.map (tagB x) else [])) hw ?_ ?_ hb.1 hb.2
    · rw [hpieces, hA]; simp only [List.append_assoc]
    · rw [List.length_append]; omega
  · intro ht k v hk
    subst ht
    have hXl : (zeros n ++ (zeros (padN (zeros n) x) ++ (if len then digB x.toNat l.length else [])) ++ (encL x p l).flatten).length = (p + l.length * x).toNat := by
      rw [List.length_append]
      have : (l.length : Int) * x = x * l.length := Int.mul_comm _ _
      omega
    rw [hpieces, ← List.append_assoc, ← List.append_assoc, ← hXl, List.getElem?_append_right (by omega), Nat.add_sub_cancel_left, if_pos rfl, List.getElem?_map, hk]
    rfl
  · have : p - (if len then x else 0) = ((n : Int) + x - 1) / x * x := by rw [← hp, ← hpe]; cases len <;> simp <;> omega
    rw [this]
    exact Int.mul_emod_left _ _
  · rw [← hp]; cases len <;> simp <;> omega
  · rw [← hp]; cases len <;> simp <;> omega
  · intro hl1
    subst hl1
    simp only [if_true] at hp hpieces hAl ⊢
    refine loadF_at (A := zeros n ++ zeros (padN (zeros n) x)) (C := (encL x p l).flatten ++ (if tagged then l.map (tagB x) else [])) hw ?_ ?_ (by omega) (hlenf rfl)
    · rw [hpieces]; simp only [List.append_assoc, Int.toNat_natCast]
    · rw [List.length_append, hzl, length_zeros]; omega
  · intro v hv hi
    obtain ⟨k, hk, hkv⟩ := List.getElem_of_mem hv
    have := fitsL_get l _ _ x k v hfit (by rw [List.getElem?_eq_getElem hk, hkv])
    unfold fitsV fitsF at this
    rw [if_pos hi] at this
    exact of_decide_eq_true this
end Go.Proofs.YtjnpcddbgfmpcaaGreat
