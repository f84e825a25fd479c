/-
  Package vec: tags.
-/
import Derived.Test.YtaoflhddcbmacaaVec1
import Derived.Test.YtaoflhddcbmacaaBufDo
import Derived.Laws.EntriesVeiled
namespace Go.Proofs.Ytaoflhddcbmacaa
open Go Go.ChangeShapes Go.WideShapes Go.ChangeAt Go.RowKit Go.Joins
open Go.Proofs.Ytaoflhddcbmacaa.Ft (V3 vV okV ValsAt inlineB legalB packF codeF)
set_option linter.unusedVariables false
set_option linter.unusedSimpArgs false

def tagB (x : Int) (v : V3) : UInt8 := UInt8.ofNat (packF v.1 (if inlineB v.1 then x else v.2.1)).1.toNat
def tagS (most x : Int) (s : St) (v : V3) : St := putS most (bytesS [⟨#[tagB x v]⟩]) s
def tagsS (most x : Int) (l : List V3) (s : St) : St := l.foldl (tagS most x) s
theorem tagsS_le {most x : Int} : ∀ (l : List V3) {s : St}, (s.1.length : Int) ≤ most → ((tagsS most x l s).1.length : Int) ≤ most
  | [], s, h => h
  | v :: r, s, h => tagsS_le r (putS_le h)
theorem tagsS_snoc (most x : Int) (l : List V3) (s : St) (k : Nat) (h : k < l.length) : tagsS most x (l.take (k + 1)) s = tagS most x (tagsS most x (l.take k) s) l[k] := by
  unfold tagsS
  rw [List.take_succ_eq_append_getElem h, List.foldl_append]; rfl
theorem pack_range (t x : Int) : 0 ≤ (packF t x).1 ∧ (packF t x).1 ≤ 255 := by
  unfold packF
  split
  · rename_i h
    have := Ft.legal_range h
    rcases Ft.codeF_cases x with e | e | e | e | e <;> rw [e] <;> simp <;> omega
  · simp
set_option maxRecDepth 100000 in
set_option maxHeartbeats 2000000 in
theorem tags_any {B : Nat} {w : World} {p : Nat} {o : Option Nat} {most : Int} (s : St) (x : Int) (lv : Value) (l : List V3) (h : BufAt B w p o s.1 most s.2) (hB : B ≤ w.heap.size) (hl : (s.1.length : Int) ≤ most) (hm1 : most ≤ 1048576)
    (hv : ValsAt w lv l) (hlen : l.length ≤ 1048576) (hap : ∀ ad n c, lv = .slice (some ad) n c → ¬ Own2 p o ad.block) :
    Calls Try.prog 42 #[bptr p, .int .i64 x, lv] w fun r w' => r = .returned (.tuple #[]) ∧ TurnB B w w' p o most (tagsS most x l s) := by
  have HB0 := Lib.hid h
  have HA := Lib.hid hap
  obtain ⟨a, c, rfl, hcell⟩ := hv
  have HC := Lib.hid hcell
  clear h hap hcell
  go_enter Try.func42, Try.ntmps42
  go_wp2_with fail
  go_loopw [13] (fun i wr => ∃ k : Nat, k ≤ l.length ∧ i = .int .i64 k ∧ Hid (TurnB B w wr p o most (tagsS most x (l.take k) s))) (fun i _ => l.length - (intOf i).toNat)
  case atStart => exact ⟨0, Nat.zero_le _, rfl, TurnB.refl HB0.out⟩
  case round =>
    obtain ⟨k, hk, rfl, HW⟩ := hrel
    by_cases hlt : k < l.length
    · obtain ⟨bl, off, rfl, q0, q1, q2⟩ := HC.out k l[k] (List.getElem?_eq_getElem hlt)
      have hnb : ¬ Own2 p o bl := HA.out ⟨bl, off, none⟩ _ _ rfl
      obtain ⟨o1, k1, k2, k3⟩ := HW.out
      have d0 := k3.cell q0 hnb
      have d1 := k3.cell q1 hnb
      have d2 := k3.cell q2 hnb
      have HSN := Lib.hid (tagsS_snoc most x l s k hlt)
      have HLE := Lib.hid (tagsS_le (x := x) (l.take k) hl)
      have hBr : B ≤ wr.heap.size := Nat.le_trans hB k3.size
      have HBR := Lib.hid hBr
      have HB1 := Lib.hid k1
      have HK := Lib.hid (And.intro k2 k3)
      generalize tagsS most x (l.take k) s = s0 at *
      generalize l[k] = v at *
      obtain ⟨ty, wd, vn⟩ := v
      simp only at d0 d1 d2
      clear k1 k2 k3 q0 q1 q2 HW hBr
      by_cases hi : inlineB ty = true
      · go_wp2_with fail
        refine (Ft.inline_any ty _).mono ?_
        rw [hi]
        rintro r w1 ⟨rfl, hg⟩
        have c0 : w1.cell? ⟨wr.heap.size, 0, none⟩ = some (.int .i64 ty) := hg.cell (by go_simp)
        have HG1 := Lib.hid (((Grew.refl wr).alloc _).trans hg)
        clear hg
        go_wp2_with fail
        refine (Ft.pack_any ty x _).mono ?_
        rintro r w2 ⟨rfl, hg⟩
        have HG2 := Lib.hid (HG1.out.trans hg)
        have HTB : Hid (tagB x (ty, wd, vn) = UInt8.ofNat (packF ty x).1.toNat) := by show _ = _; simp [tagB, hi]
        have hpk := pack_range ty x
        have hb8 : (packF ty x).1 = ((UInt8.ofNat (packF ty x).1.toNat).toNat : Int) := by rw [UInt8.toNat_ofNat']; omega
        have HSZ := Lib.hid HG2.out.size
        generalize packF ty x = pk at *
        clear hg c0 hpk
        have hst := str_of_bytes (one_byte w2 pk.1 (UInt8.ofNat pk.1.toNat) hb8)
        clear hb8
        go_wp2_with fail
        refine (textNew1 s0 ⟨#[UInt8.ofNat pk.1.toNat]⟩ _ (by simp) (HB1.out.grew (HG2.out.alloc _)) (Nat.le_trans HBR.out (HG2.out.alloc _).size) HLE.out hm1 (show (1 : Nat) + 0 ≤ 1073741824 by decide)).mono ?_
        rintro r w5 ⟨rfl, ht⟩
        have HT := Lib.hid (TurnB.after (HG2.out.alloc _) ht)
        clear ht hst
        go_wp2
        go_roundw
        case rel =>
          have hT := HT.out
          rw [← HTB.out] at hT
          have e : tagsS most x (l.take (k + 1)) s = putS most (bytesS [⟨#[tagB x (ty, wd, vn)]⟩]) s0 := HSN.out
          rw [← e] at hT
          obtain ⟨o2, t1, t2, t3⟩ := hT
          exact ⟨k + 1, by omega, by go_num, o2, t1, HK.out.1.trans t2 HK.out.2.size, HK.out.2.own HK.out.1 t3⟩
        case measure => simp [intOf]; omega
      · have hi' : inlineB ty = false := by simpa using hi
        go_wp2_with fail
        refine (Ft.inline_any ty _).mono ?_
        rw [hi']
        rintro r w1 ⟨rfl, hg⟩
        have c0 : w1.cell? ⟨wr.heap.size, 0, none⟩ = some (.int .i64 ty) := hg.cell (by go_simp)
        have HG1 := Lib.hid (((Grew.refl wr).alloc _).trans hg)
        clear hg
        go_wp2_with fail
        refine (Ft.pack_any ty wd _).mono ?_
        rintro r w2 ⟨rfl, hg⟩
        have HG2 := Lib.hid (HG1.out.trans hg)
        have HTB : Hid (tagB x (ty, wd, vn) = UInt8.ofNat (packF ty wd).1.toNat) := by show _ = _; simp [tagB, hi']
        have hpk := pack_range ty wd
        have hb8 : (packF ty wd).1 = ((UInt8.ofNat (packF ty wd).1.toNat).toNat : Int) := by rw [UInt8.toNat_ofNat']; omega
        have HSZ := Lib.hid HG2.out.size
        generalize packF ty wd = pk at *
        clear hg c0 hpk
        have hst := str_of_bytes (one_byte w2 pk.1 (UInt8.ofNat pk.1.toNat) hb8)
        clear hb8
        go_wp2_with fail
        refine (textNew1 s0 ⟨#[UInt8.ofNat pk.1.toNat]⟩ _ (by simp) (HB1.out.grew (HG2.out.alloc _)) (Nat.le_trans HBR.out (HG2.out.alloc _).size) HLE.out hm1 (show (1 : Nat) + 0 ≤ 1073741824 by decide)).mono ?_
        rintro r w5 ⟨rfl, ht⟩
        have HT := Lib.hid (TurnB.after (HG2.out.alloc _) ht)
        clear ht hst
        go_wp2
        go_roundw
        case rel =>
          have hT := HT.out
          rw [← HTB.out] at hT
          have e : tagsS most x (l.take (k + 1)) s = putS most (bytesS [⟨#[tagB x (ty, wd, vn)]⟩]) s0 := HSN.out
          rw [← e] at hT
          obtain ⟨o2, t1, t2, t3⟩ := hT
          exact ⟨k + 1, by omega, by go_num, o2, t1, HK.out.1.trans t2 HK.out.2.size, HK.out.2.own HK.out.1 t3⟩
        case measure => simp [intOf]; omega
    · have e : k = l.length := by omega
      have HF : Hid (TurnB B w wr p o most (tagsS most x l s)) := by
        have := HW.out
        rw [e, List.take_length] at this
        exact this
      clear HW
      go_wp2
      go_end0
      exact ⟨rfl, HF.out⟩
/-- The closure that takes the values of a typed vector. -/
def takesE (elem : Int) (v : V3) : Int := if legalB v.1 && decide (v.1 ≠ elem) then 60 else legalE v
set_option maxHeartbeats 1000000 in
theorem takes_any (elem : Int) (v : V3) (pa : Addr) (w : World) (he : w.cell? pa = some (.int .i64 elem)) : Calls Try.prog 43 #[vV v, .pointer (some pa)] w fun r w' => r = .returned (.int .i64 (takesE elem v)) ∧ Grew w w' := by
  obtain ⟨ty, wd, n⟩ := v
  have H0 : Hid (Grew w (w.alloc (.cells #[.int .i64 ty, .int .i64 wd, .int .u64 n] 28))) := (Grew.refl w).alloc _
  show Calls Try.prog 43 #[.agg #[.int .i64 ty, .int .i64 wd, .int .u64 n], .pointer (some pa)] w _
  go_enter Try.func43, Try.ntmps43
  go_wp2_with fail
  refine (Ft.legal_any ty _).mono ?_
  by_cases hl : legalB ty = true
  · rw [hl]
    rintro r w1 ⟨rfl, hg⟩
    have c0 : w1.cell? ⟨w.heap.size, 0, none⟩ = some (.int .i64 ty) := hg.cell (by go_simp)
    have c1 : w1.cell? ⟨w.heap.size, 1, none⟩ = some (.int .i64 wd) := hg.cell (by go_simp)
    have c2 : w1.cell? ⟨w.heap.size, 2, none⟩ = some (.int .u64 n) := hg.cell (by go_simp)
    have ce : w1.cell? pa = some (.int .i64 elem) := hg.cell (H0.out.cell he)
    have HG := Lib.hid (H0.out.trans hg)
    clear hg
    by_cases hne : ty = elem
    · have HE : Hid (takesE elem (ty, wd, n) = legalE (ty, wd, n)) := by show _ = _; simp [takesE, hne]
      subst hne
      go_wp2_with fail
      refine (legalV_any (ty, wd, n) _).mono ?_
      rintro r w2 ⟨rfl, hg⟩
      have HG2 := Lib.hid (HG.out.trans hg)
      clear hg
      go_wp2
      go_ret
      exact ⟨by rw [HE.out]; rfl, HG2.out⟩
    · have HE : Hid (takesE elem (ty, wd, n) = 60) := by show _ = _; simp [takesE, hl, hne]
      go_wp2
      go_ret
      exact ⟨by rw [HE.out]; rfl, HG.out⟩
  · have hl' : legalB ty = false := by simpa using hl
    rw [hl']
    rintro r w1 ⟨rfl, hg⟩
    have c0 : w1.cell? ⟨w.heap.size, 0, none⟩ = some (.int .i64 ty) := hg.cell (by go_simp)
    have c1 : w1.cell? ⟨w.heap.size, 1, none⟩ = some (.int .i64 wd) := hg.cell (by go_simp)
    have c2 : w1.cell? ⟨w.heap.size, 2, none⟩ = some (.int .u64 n) := hg.cell (by go_simp)
    have HE : Hid (takesE elem (ty, wd, n) = legalE (ty, wd, n)) := by show _ = _; simp [takesE, hl']
    have HG := Lib.hid (H0.out.trans hg)
    clear hg
    go_wp2_with fail
    refine (legalV_any (ty, wd, n) _).mono ?_
    rintro r w2 ⟨rfl, hg⟩
    have HG2 := Lib.hid (HG.out.trans hg)
    clear hg
    go_wp2
    go_ret
    exact ⟨by rw [HE.out]; rfl, HG2.out⟩
abbrev fnv (k : Nat) (cap : Array Value) : Value := .func (.func k) #[] cap
theorem shaped_un (w : World) : Calls Try.prog 23 #[.int .i64 (-1), .int .i64 0] w fun r w' => r = .returned (.tuple #[.agg #[.int .i64 10, .bool true, fnv 41 #[], fnv 42 #[]], .int .i64 0]) ∧ Grew w w' := by
  go_enter Try.func23, Try.ntmps23
  go_wp2
  refine bodyPost_ret (v := .tuple #[.agg #[.int .i64 10, .bool true, fnv 41 #[], fnv 42 #[]], .int .i64 0]) ?_ rfl ⟨rfl, ?_⟩
  · simp [results, Try.results23, go_sem, fnv]
  · exact ((Grew.refl w).alloc _).alloc _
end Go.Proofs.Ytaoflhddcbmacaa
