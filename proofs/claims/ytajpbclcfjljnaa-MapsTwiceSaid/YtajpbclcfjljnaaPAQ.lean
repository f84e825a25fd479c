/-
  Texts of the proof, part 17 of 21.
-/
import Derived.Test.YtajpbclcfjljnaaPAP
import Derived.Test.YtajpbclcfjljnaaPAH
import Derived.Laws.EntriesVeiled
import Derived.Test.YtajpbclcfjljnaaPAF

/-
  Package vec: tags.
-/
namespace Go.Proofs.Ytajpbclcfjljnaa
open Go Go.ChangeShapes Go.WideShapes Go.ChangeAt Go.RowKit Go.Joins
open Go.Proofs.Ytajpbclcfjljnaa.Ft (V3 vV okV ValsAt inlineB legalB packF codeF)
set_option linter.unusedVariables false
set_option linter.unusedSimpArgs false
def tagB (x : Int) (v : V3) : UInt8 := UInt8.ofNat (packF v.1 (if inlineB v.1 then x else v.2.1)).1.toNat
def tagS (most x : Int) (s : St) (v : V3) : St := putS most (bytesS [⟨#[tagB x v]⟩]) s
def tagsS (most x : Int) (l : List V3) (s : St) : St := l.foldl (tagS most x) s
theorem tagsS_le {most x : Int} : ∀ (l : List V3) {s : St}, (s.1.length : Int) ≤ most → ((tagsS most x l s).1.length : Int) ≤ most
  | [], s, h => h
  | v :: r, s, h => tagsS_le r (putS_le h)
theorem tagsS_snoc (most x : Int) (l : List V3) (s : St) (k : Nat) (h : k < l.length) : tagsS most x (l.take (k + 1)) s = tagS most x (tagsS most x (l.take k) s) l[k] := by
  unfold tagsS
  rw [List.take_succ_eq_append_getElem h, List.foldl_append]; rfl
theorem pack_range (t x : Int) : 0 ≤ (packF t x).1 ∧ (packF t x).1 ≤ 255 := by
  unfold packF
  split
  · rename_i h
    have := Ft.legal_range h
    rcases Ft.codeF_cases x with e | e | e | e | e <;> rw [e] <;> simp <;> omega
  · simp
set_option maxRecDepth 100000 in
set_option maxHeartbeats 2000000 in
theorem tags_any {B : Nat} {w : World} {p : Nat} {o : Option Nat} {most : Int} (s : St) (x : Int) (lv : Value) (l : List V3) (h : BufAt B w p o s.1 most s.2) (hB : B ≤ w.heap.size) (hl : (s.1.length : Int) ≤ most) (hm1 : most ≤ 1048576)
    (hv : ValsAt w lv l) (hlen : l.length ≤ 1048576) (hap : ∀ ad n c, lv = .slice (some ad) n c → ¬ Own2 p o ad.block) :
    Calls Try.prog 57 #[bptr p, .int .i64 x, lv] w fun r w' => r = .returned (.tuple #[]) ∧ TurnB B w w' p o most (tagsS most x l s) := by
  have HB0 := Lib.hid h
  have HA := Lib.hid hap
  obtain ⟨a, c, rfl, hcell⟩ := hv
  have HC := Lib.hid hcell
  clear h hap hcell
  go_enter Try.func57, Try.ntmps57
  go_wp2_with fail
  go_loopw [13] (fun i wr => ∃ k : Nat, k ≤ l.length ∧ i = .int .i64 k ∧ Hid (TurnB B w wr p o most (tagsS most x (l.take k) s))) (fun i _ => l.length - (intOf i).toNat)
  case atStart => exact ⟨0, Nat.zero_le _, rfl, TurnB.refl HB0.out⟩
  case round =>
    obtain ⟨k, hk, rfl, HW⟩ := hrel
    by_cases hlt : k < l.length
    · obtain ⟨bl, off, rfl, q0, q1, q2⟩ := HC.out k l[k] (List.getElem?_eq_getElem hlt)
      have hnb : ¬ Own2 p o bl := HA.out ⟨bl, off, none⟩ _ _ rfl
      obtain ⟨o1, k1, k2, k3⟩ := HW.out
      have d0 := k3.cell q0 hnb
      have d1 := k3.cell q1 hnb
      have d2 := k3.cell q2 hnb
      have HSN := Lib.hid (tagsS_snoc most x l s k hlt)
      have HLE := Lib.hid (tagsS_le (x := x) (l.take k) hl)
      have hBr : B ≤ wr.heap.size := Nat.le_trans hB k3.size
      have HBR := Lib.hid hBr
      have HB1 := Lib.hid k1
      have HK := Lib.hid (And.intro k2 k3)
      generalize tagsS most x (l.take k) s = s0 at *
      generalize l[k] = v at *
      obtain ⟨ty, wd, vn⟩ := v
      simp only at d0 d1 d2
      clear k1 k2 k3 q0 q1 q2 HW hBr
      by_cases hi : inlineB ty = true
      · go_wp2_with fail
        refine (Ft.inline_any ty _).mono ?_
        rw [hi]
        rintro r w1 ⟨rfl, hg⟩
        have c0 : w1.cell? ⟨wr.heap.size, 0, none⟩ = some (.int .i64 ty) := hg.cell (by go_simp)
        have HG1 := Lib.hid (((Grew.refl wr).alloc _).trans hg)
        clear hg
        go_wp2_with fail
        refine (Ft.pack_any ty x _).mono ?_
        rintro r w2 ⟨rfl, hg⟩
        have HG2 := Lib.hid (HG1.out.trans hg)
        have HTB : Hid (tagB x (ty, wd, vn) = UInt8.ofNat (packF ty x).1.toNat) := by show _ = _; simp [tagB, hi]
        have hpk := pack_range ty x
        have hb8 : (packF ty x).1 = ((UInt8.ofNat (packF ty x).1.toNat).toNat : Int) := by rw [UInt8.toNat_ofNat']; omega
        have HSZ := Lib.hid HG2.out.size
        generalize packF ty x = pk at *
        clear hg c0 hpk
        have hst := str_of_bytes (one_byte w2 pk.1 (UInt8.ofNat pk.1.toNat) hb8)
        clear hb8
        go_wp2_with fail
        refine (textNew1 s0 ⟨#[UInt8.ofNat pk.1.toNat]⟩ _ (by simp) (HB1.out.grew (HG2.out.alloc _)) (Nat.le_trans HBR.out (HG2.out.alloc _).size) HLE.out hm1 (show (1 : Nat) + 0 ≤ 1073741824 by decide)).mono ?_
        rintro r w5 ⟨rfl, ht⟩
        have HT := Lib.hid (TurnB.after (HG2.out.alloc _) ht)
        clear ht hst
        go_wp2
        go_roundw
        case rel =>
          have hT := HT.out
          rw [← HTB.out] at hT
          have e : tagsS most x (l.take (k + 1)) s = putS most (bytesS [⟨#[tagB x (ty, wd, vn)]⟩]) s0 := HSN.out
          rw [← e] at hT
          obtain ⟨o2, t1, t2, t3⟩ := hT
          exact ⟨k + 1, by omega, by go_num, o2, t1, HK.out.1.trans t2 HK.out.2.size, HK.out.2.own HK.out.1 t3⟩
        case measure => simp [intOf]; omega
      · have hi' : inlineB ty = false := by simpa using hi
        go_wp2_with fail
        refine (Ft.inline_any ty _).mono ?_
        rw [hi']
        rintro r w1 ⟨rfl, hg⟩
        have c0 : w1.cell? ⟨wr.heap.size, 0, none⟩ = some (.int .i64 ty) := hg.cell (by go_simp)
        have HG1 := Lib.hid (((Grew.refl wr).alloc _).trans hg)
        clear hg
        go_wp2_with fail
        refine (Ft.pack_any ty wd _).mono ?_
        rintro r w2 ⟨rfl, hg⟩
        have HG2 := Lib.hid (HG1.out.trans hg)
        have HTB : Hid (tagB x (ty, wd, vn) = UInt8.ofNat (packF ty wd).1.toNat) := by show _ = _; simp [tagB, hi']
        have hpk := pack_range ty wd
        have hb8 : (packF ty wd).1 = ((UInt8.ofNat (packF ty wd).1.toNat).toNat : Int) := by rw [UInt8.toNat_ofNat']; omega
        have HSZ := Lib.hid HG2.out.size
        generalize packF ty wd = pk at *
        clear hg c0 hpk
        have hst := str_of_bytes (one_byte w2 pk.1 (UInt8.ofNat pk.1.toNat) hb8)
        clear hb8
        go_wp2_with fail
        refine (textNew1 s0 ⟨#[UInt8.ofNat pk.1.toNat]⟩ _ (by simp) (HB1.out.grew (HG2.out.alloc _)) (Nat.le_trans HBR.out (HG2.out.alloc _).size) HLE.out hm1 (show (1 : Nat) + 0 ≤ 1073741824 by decide)).mono ?_
        rintro r w5 ⟨rfl, ht⟩
        have HT := Lib.hid (TurnB.after (HG2.out.alloc _) ht)
        clear ht hst
        go_wp2
        go_roundw
        case rel =>
          have hT := HT.out
          rw [← HTB.out] at hT
          have e : tagsS most x (l.take (k + 1)) s = putS most (bytesS [⟨#[tagB x (ty, wd, vn)]⟩]) s0 := HSN.out
          rw [← e] at hT
          obtain ⟨o2, t1, t2, t3⟩ := hT
          exact ⟨k + 1, by omega, by go_num, o2, t1, HK.out.1.trans t2 HK.out.2.size, HK.out.2.own HK.out.1 t3⟩
        case measure => simp [intOf]; omega
    · have e : k = l.length := by omega
      have HF : Hid (TurnB B w wr p o most (tagsS most x l s)) := by
        have := HW.out
        rw [e, List.take_length] at this
        exact this
      clear HW
      go_wp2
      go_end0
      exact ⟨rfl, HF.out⟩
def takesE (elem : Int) (v : V3) : Int := if legalB v.1 && decide (v.1 ≠ elem) then 60 else legalE v
set_option maxHeartbeats 1000000 in
theorem takes_any (elem : Int) (v : V3) (pa : Addr) (w : World) (he : w.cell? pa = some (.int .i64 elem)) : Calls Try.prog 59 #[vV v, .pointer (some pa)] w fun r w' => r = .returned (.int .i64 (takesE elem v)) ∧ Grew w w' := by
  obtain ⟨ty, wd, n⟩ := v
  have H0 : Hid (Grew w (w.alloc (.cells #[.int .i64 ty, .int .i64 wd, .int .u64 n] 30))) := (Grew.refl w).alloc _
  show Calls Try.prog 59 #[.agg #[.int .i64 ty, .int .i64 wd, .int .u64 n], .pointer (some pa)] w _
  go_enter Try.func59, Try.ntmps59
  go_wp2_with fail
  refine (Ft.legal_any ty _).mono ?_
  by_cases hl : legalB ty = true
  · rw [hl]
    rintro r w1 ⟨rfl, hg⟩
    have c0 : w1.cell? ⟨w.heap.size, 0, none⟩ = some (.int .i64 ty) := hg.cell (by go_simp)
    have c1 : w1.cell? ⟨w.heap.size, 1, none⟩ = some (.int .i64 wd) := hg.cell (by go_simp)
    have c2 : w1.cell? ⟨w.heap.size, 2, none⟩ = some (.int .u64 n) := hg.cell (by go_simp)
    have ce : w1.cell? pa = some (.int .i64 elem) := hg.cell (H0.out.cell he)
    have HG := Lib.hid (H0.out.trans hg)
    clear hg
    by_cases hne : ty = elem
    · have HE : Hid (takesE elem (ty, wd, n) = legalE (ty, wd, n)) := by show _ = _; simp [takesE, hne]
      subst hne
      go_wp2_with fail
      refine (legalV_any (ty, wd, n) _).mono ?_
      rintro r w2 ⟨rfl, hg⟩
      have HG2 := Lib.hid (HG.out.trans hg)
      clear hg
      go_wp2
      go_ret
      exact ⟨by rw [HE.out]; rfl, HG2.out⟩
    · have HE : Hid (takesE elem (ty, wd, n) = 60) := by show _ = _; simp [takesE, hl, hne]
      go_wp2
      go_ret
      exact ⟨by rw [HE.out]; rfl, HG.out⟩
  · have hl' : legalB ty = false := by simpa using hl
    rw [hl']
    rintro r w1 ⟨rfl, hg⟩
    have c0 : w1.cell? ⟨w.heap.size, 0, none⟩ = some (.int .i64 ty) := hg.cell (by go_simp)
    have c1 : w1.cell? ⟨w.heap.size, 1, none⟩ = some (.int .i64 wd) := hg.cell (by go_simp)
    have c2 : w1.cell? ⟨w.heap.size, 2, none⟩ = some (.int .u64 n) := hg.cell (by go_simp)
    have HE : Hid (takesE elem (ty, wd, n) = legalE (ty, wd, n)) := by show _ = _; simp [takesE, hl']
    have HG := Lib.hid (H0.out.trans hg)
    clear hg
    go_wp2_with fail
    refine (legalV_any (ty, wd, n) _).mono ?_
    rintro r w2 ⟨rfl, hg⟩
    have HG2 := Lib.hid (HG.out.trans hg)
    clear hg
    go_wp2
    go_ret
    exact ⟨by rw [HE.out]; rfl, HG2.out⟩
abbrev fnv (k : Nat) (cap : Array Value) : Value := .func (.func k) #[] cap
theorem shaped_un (w : World) : Calls Try.prog 33 #[.int .i64 (-1), .int .i64 0] w fun r w' => r = .returned (.tuple #[.agg #[.int .i64 10, .bool true, fnv 56 #[], fnv 57 #[]], .int .i64 0]) ∧ Grew w w' := by
  go_enter Try.func33, Try.ntmps33
  go_wp2
  refine bodyPost_ret (v := .tuple #[.agg #[.int .i64 10, .bool true, fnv 56 #[], fnv 57 #[]], .int .i64 0]) ?_ rfl ⟨rfl, ?_⟩
  · simp [results, Try.results33, go_sem, fnv]
  · exact ((Grew.refl w).alloc _).alloc _
end Go.Proofs.Ytajpbclcfjljnaa

/-
  Package le: within, Load.
-/
namespace Go.Proofs.Ytajpbclcfjljnaa
open Go Go.ChangeShapes Go.WideShapes Go.ChangeAt Go.RowKit Go.Joins
set_option linter.unusedVariables false
set_option linter.unusedSimpArgs false
theorem row_cell1 {w : World} {p : Nat} {cs : Array Value} {t : TypeId} (h : w.heap[p]? = some (.cells cs t (0, 0))) (k : Nat) (v : Value) (hv : cs[k]? = some v) : w.cell? ⟨p, k, none⟩ = some v := by
  simp [World.cell?, h, hv]
def loadF (l : List UInt8) (at_ x : Int) : Int × Int := if isW x = true then (if at_ < 0 ∨ at_ > l.length - x then (0, 6) else (leF ((l.drop at_.toNat).take x.toNat), 0)) else (0, 2)
theorem bytes_cut {w : World} {bl off : Nat} {c : Nat} {l : List UInt8} (hb : BytesAt w (.slice (some ⟨bl, off, none⟩) l.length c) l) (k x c2 : Nat) (h : k + x ≤ l.length) (hc : x ≤ c2) : BytesAt w (.slice (some ⟨bl, off + k, none⟩) x c2) ((l.drop k).take x) := by
  obtain ⟨a, c', e, _, _, h4⟩ := hb
  cases e
  refine ⟨some ⟨bl, off + k, none⟩, c2, by simp; omega, by simp; omega, fun h => (by cases h), fun i b hi => ?_⟩
  rw [List.getElem?_take] at hi
  split at hi
  · rw [List.getElem?_drop] at hi
    obtain ⟨bl', off', e, hcell⟩ := h4 (k + i) b hi
    cases e
    exact ⟨bl, off + k, rfl, by rw [Nat.add_assoc]; exact hcell⟩
  · cases hi
set_option maxRecDepth 100000 in
set_option maxHeartbeats 1000000 in
theorem within_any {w : World} (sv : Value) (l : List UInt8) (hb : BytesAt w sv l) (hlen : l.length ≤ 1073741824) (at_ x : Int) (ha : -4611686018427387904 ≤ at_ ∧ at_ ≤ 4611686018427387904) (pa : Nat) (hp : w.heap[pa]? = some (.cells #[.int .u64 0] 28)) (hap : ∀ ad n c, sv = .slice (some ad) n c → ad.block ≠ pa) :
    Calls Try.prog 41 #[sv, .int .i64 at_, .int .i64 x, fnv 42 #[.pointer (some ⟨pa, 0, none⟩)]] w fun r w' => r = .returned (.int .i64 (loadF l at_ x).2) ∧ w'.heap[pa]? = some (.cells #[.int .u64 (loadF l at_ x).1] 28) ∧ Moved (fun b => b = pa) w w' := by
  have HB0 := Lib.hid hb
  have HA := Lib.hid hap
  have HP := Lib.hid hp
  obtain ⟨a, c, rfl, hcell⟩ := hb
  have hc := hcell.1
  have HC := Lib.hid hcell.2.2
  clear hap hcell hp
  unfold loadF
  by_cases hx : isW x = true
  · rw [if_pos hx]
    have HX := Lib.hid hx
    by_cases hr : at_ < 0 ∨ at_ > l.length - x
    · rw [if_pos hr]
      have hx1 : 1 ≤ x ∧ x ≤ 8 := by rcases isW_cases hx with rfl | rfl | rfl | rfl <;> omega
      go_enter Try.func41, Try.ntmps41
      go_wp2_with fail
      refine (leis_any x _).mono ?_
      rw [HX.out]
      rintro r w1 ⟨rfl, rfl⟩
      by_cases h0 : at_ < 0
      · go_wp2
        go_ret
        exact ⟨rfl, HP.out, Moved.refl _ _⟩
      · have h1 : (l.length : Int) - x < at_ := by omega
        go_wp2
        go_ret
        exact ⟨rfl, HP.out, Moved.refl _ _⟩
    · rw [if_neg hr]
      have hx1 : 1 ≤ x ∧ x ≤ 8 := by rcases isW_cases hx with rfl | rfl | rfl | rfl <;> omega
      obtain ⟨k, rfl⟩ := Int.eq_ofNat_of_zero_le (show 0 ≤ at_ by omega)
      obtain ⟨y, rfl⟩ := Int.eq_ofNat_of_zero_le (show 0 ≤ x by omega)
      have hky : k + y ≤ l.length := by omega
      obtain ⟨bl, off, rfl, _⟩ := HC.out 0 l[0] (List.getElem?_eq_getElem (by omega))
      go_enter Try.func41, Try.ntmps41
      go_wp2_with fail
      refine (leis_any y _).mono ?_
      rw [HX.out]
      rintro r w1 ⟨rfl, rfl⟩
      go_wp2_with fail
      refine (load1_any _ ((l.drop k).take y) (bytes_cut HB0.out k y (c - k) hky (by omega)) (by simp; omega) pa HP.out (fun ad n c' e => by cases e; exact HA.out ⟨bl, off, none⟩ _ _ rfl)).mono ?_
      rintro r w2 ⟨rfl, hrow, hm⟩
      have HR := Lib.hid hrow
      have HM := Lib.hid hm
      clear hrow hm
      go_wp2
      go_ret
      exact ⟨rfl, by simpa using HR.out, HM.out⟩
  · rw [if_neg hx]
    have HX := Lib.hid (show isW x = false by simpa using hx)
    clear hx
    go_enter Try.func41, Try.ntmps41
    go_wp2_with fail
    refine (leis_any x _).mono ?_
    rw [HX.out]
    rintro r w1 ⟨rfl, rfl⟩
    go_wp2
    go_ret
    exact ⟨rfl, HP.out, Moved.refl _ _⟩
set_option maxRecDepth 100000 in
set_option maxHeartbeats 1000000 in
theorem load_any {w : World} (sv : Value) (l : List UInt8) (hb : BytesAt w sv l) (hlen : l.length ≤ 1073741824) (at_ x : Int) (ha : -4611686018427387904 ≤ at_ ∧ at_ ≤ 4611686018427387904) (hap : ∀ ad n c, sv = .slice (some ad) n c → ad.block < w.heap.size) :
    Calls Try.prog 21 #[sv, .int .i64 at_, .int .i64 x] w fun r w' => r = .returned (.tuple #[.int .u64 (loadF l at_ x).1, .int .i64 (loadF l at_ x).2]) ∧ Grew w w' := by
  have HB0 := Lib.hid hb
  have HA := Lib.hid hap
  have hmf : ∀ (fn : Fn) (first cap : Array Value) (w : World), (Instr.makeFunc fn first cap).run Try.prog w = .ok (.func fn first cap) w := fun _ _ _ _ => rfl
  obtain ⟨a, c, rfl, hcell⟩ := hb
  clear hap hcell
  go_enter Try.func21, Try.ntmps21
  go_wp2_with fail
  refine (within_any _ l (HB0.out.grew ((Grew.refl w).alloc _)) hlen at_ x ha w.heap.size (heap_alloc_new _ _) (fun ad n c' e => by have := HA.out ad n c' e; omega)).mono ?_
  rintro r w2 ⟨rfl, hrow, hm⟩
  have g0 : w2.cell? ⟨w.heap.size, 0, none⟩ = some (.int .u64 (loadF l at_ x).1) := row_cell1 hrow 0 _ rfl
  have f0 := row_frozen hrow 0
  have HM := Lib.hid hm
  clear hrow hm
  obtain ⟨q, hq⟩ : ∃ q, q = loadF l at_ x := ⟨_, rfl⟩
  rw [← hq] at g0 ⊢
  have hm2 : Moved (fun b => b = w.heap.size) w w2 := ((Moved.refl _ w).alloc _).trans HM.out (fun _ _ h => h)
  have HG : Hid (Grew w w2) := hm2.below (Nat.le_refl _) (fun k e => by omega)
  clear hm2
  go_wp2
  refine bodyPost_ret (v := .tuple #[.int .u64 q.1, .int .i64 q.2]) ?_ rfl ⟨by rw [hq], ?_⟩
  · simp [results, Try.results21, go_sem, g0, hq]
  · exact HG.out.setCell (Nat.le_refl _) _
end Go.Proofs.Ytajpbclcfjljnaa

/-
  Package le: LoadInt.
-/
namespace Go.Proofs.Ytajpbclcfjljnaa
open Go Go.ChangeShapes Go.WideShapes Go.ChangeAt Go.RowKit Go.Joins
set_option linter.unusedVariables false
set_option linter.unusedSimpArgs false
theorem loadF_ok {l : List UInt8} {at_ x : Int} (h : (loadF l at_ x).2 = 0) : isW x = true ∧ 0 ≤ (loadF l at_ x).1 ∧ (loadF l at_ x).1 < 256 ^ x.toNat := by
  revert h
  unfold loadF
  split
  · rename_i hx
    split
    · simp
    · intro _
      refine ⟨hx, leF_lo _, ?_⟩
      refine Int.lt_of_lt_of_le (leF_hi _) ?_
      have h1 : ((l.drop at_.toNat).take x.toNat).length ≤ x.toNat := by simp; omega
      have h2 := Nat.pow_le_pow_right (n := 256) (by decide) h1
      have : ((256 ^ ((l.drop at_.toNat).take x.toNat).length : Nat) : Int) ≤ ((256 ^ x.toNat : Nat) : Int) := Int.ofNat_le.2 h2
      simpa using this
  · simp
def sgnF (u x : Int) : Int := if u < 2 ^ (8 * x.toNat - 1) then u else u - 2 ^ (8 * x.toNat)
def loadIntF (l : List UInt8) (at_ x : Int) : Int × Int := if (loadF l at_ x).2 = 0 then (sgnF (loadF l at_ x).1 x, 0) else (0, (loadF l at_ x).2)
set_option maxRecDepth 100000 in
set_option maxHeartbeats 1000000 in
theorem loadInt_any {w : World} (sv : Value) (l : List UInt8) (hb : BytesAt w sv l) (hlen : l.length ≤ 1073741824) (at_ x : Int) (ha : -4611686018427387904 ≤ at_ ∧ at_ ≤ 4611686018427387904) (hap : ∀ ad n c, sv = .slice (some ad) n c → ad.block < w.heap.size) :
    Calls Try.prog 22 #[sv, .int .i64 at_, .int .i64 x] w fun r w' => r = .returned (.tuple #[.int .i64 (loadIntF l at_ x).1, .int .i64 (loadIntF l at_ x).2]) ∧ Grew w w' := by
  have HL : Hid (Calls Try.prog 21 #[sv, .int .i64 at_, .int .i64 x] w fun r w' => r = .returned (.tuple #[.int .u64 (loadF l at_ x).1, .int .i64 (loadF l at_ x).2]) ∧ Grew w w') := load_any sv l hb hlen at_ x ha hap
  have hok := loadF_ok (l := l) (at_ := at_) (x := x)
  unfold loadIntF
  clear hb hap
  generalize loadF l at_ x = q at *
  obtain ⟨u, e⟩ := q
  simp only at hok ⊢
  by_cases he : e = 0
  · subst he
    obtain ⟨hx, u0, u1⟩ := hok rfl
    simp only [if_true]
    rcases isW_cases hx with rfl | rfl | rfl | rfl
    all_goals
      simp at u1
      clear hx
      go_enter Try.func22, Try.ntmps22
      go_wp2_with fail
      refine HL.out.mono ?_
      rintro r w2 ⟨rfl, hg⟩
      have HG := Lib.hid hg
      clear hg
      go_wp2
      go_ret2
      refine ⟨?_, HG.out⟩
      congr 2
      simp [sgnF, IntKind.wrap, IntKind.bits, IntKind.signed]
      unfold wrap64
      split <;> omega
  · rw [if_neg he]
    go_enter Try.func22, Try.ntmps22
    go_wp2_with fail
    refine HL.out.mono ?_
    rintro r w2 ⟨rfl, hg⟩
    have HG := Lib.hid hg
    clear hg
    go_wp2
    go_ret2
    exact ⟨rfl, HG.out⟩
end Go.Proofs.Ytajpbclcfjljnaa

/-
  Vectors: the law's helpers.
-/
namespace Go.Proofs.Ytajpbclcfjljnaa
open Go Go.ChangeShapes Go.WideShapes Go.ChangeAt Go.RowKit Go.Joins
set_option linter.unusedVariables false
set_option linter.unusedSimpArgs false
theorem bringL_any (i n : Int) (w : World) (hn : 0 < n) (hn2 : n ≤ 1099511627776) : Calls Try.prog 7 #[.int .i64 i, .int .i64 n] w fun r w' => r = .returned (.int .i64 (i % n)) ∧ w' = w := by
  obtain ⟨b1, b2, b3, b4⟩ := bring_eq i n hn
  have B1 := Lib.hid b1
  have B2 := Lib.hid b2
  clear b1 b2
  go_enter Try.func7, Try.ntmps7
  go_wp2
  · go_ret
    refine ⟨ret_int ?_, rfl⟩
    exact B1.out (by assumption)
  · go_ret
    exact ⟨ret_int (B2.out (by assumption)), rfl⟩
end Go.Proofs.Ytajpbclcfjljnaa

/-
  Vectors: the law's filled buffer.
-/
namespace Go.Proofs.Ytajpbclcfjljnaa
open Go Go.ChangeShapes Go.WideShapes Go.ChangeAt Go.RowKit Go.Joins
set_option linter.unusedVariables false
set_option linter.unusedSimpArgs false
theorem bytes_zero (n : Nat) : bytesS [⟨(zeros n).toArray⟩] = zeros n := by
  simp [bytesS]
theorem size_zero (n : Nat) : sizeS [⟨(zeros n).toArray⟩] = n := by
  have h := bytesS_length [⟨(zeros n).toArray⟩]
  rw [← h, bytes_zero]
  exact length_zeros n
end Go.Proofs.Ytajpbclcfjljnaa

/-
  Package vec: shaped (typed), Put.
-/
namespace Go.Proofs.Ytajpbclcfjljnaa
open Go Go.ChangeShapes Go.WideShapes Go.ChangeAt Go.RowKit Go.Joins
open Go.Proofs.Ytajpbclcfjljnaa.Ft (V3 vV okV ValsAt inlineB legalB packF codeF typedF)
set_option linter.unusedVariables false
set_option linter.unusedSimpArgs false
def shapeT (elem many : Int) (n : Nat) : Value := if (typedF elem many).2 = true then .tuple #[.agg #[.int .i64 (typedF elem many).1, .bool (many == 0), fnv 59 #[.pointer (some ⟨n, 0, none⟩)], fnv 60 #[]], .int .i64 0] else .tuple #[.agg #[.int .i64 0, .bool false, .nilFunc, .nilFunc], .int .i64 20]
theorem shaped_ty (elem many : Int) (h : ¬ (elem = -1 ∧ many = 0)) (w : World) : Calls Try.prog 33 #[.int .i64 elem, .int .i64 many] w fun r w' => r = .returned (shapeT elem many w.heap.size) ∧ Grew w w' ∧ w'.cell? ⟨w.heap.size, 0, none⟩ = some (.int .i64 elem) ∧ w.heap.size < w'.heap.size := by
  unfold shapeT
  have HTY := fun w' => Ft.typed_any elem many w'
  generalize typedF elem many = tq at *
  obtain ⟨tt, tb⟩ := tq
  simp only at HTY
  have HY := Lib.hid HTY
  clear HTY
  by_cases he : elem = -1
  · have hm : ¬ many = 0 := fun x => h ⟨he, x⟩
    clear h
    subst he
    cases tb
    · go_enter Try.func33, Try.ntmps33
      go_wp2_with fail
      refine (HY.out _).mono ?_
      rintro r w1 ⟨rfl, hg⟩
      have c0 : w1.cell? ⟨w.heap.size, 0, none⟩ = some (.int .i64 (-1)) := hg.cell (by go_simp)
      have HG : Hid (Grew w w1) := (((Grew.refl w).alloc _).alloc _).trans hg
      have HSZ := hg.size
      have hb : w1.heap[w.heap.size + 1]? = some (.cells #[.int .i64 0, .bool false, .nilFunc, .nilFunc] 70) := hg.heap (by rw [show w.heap.size + 1 = (w.alloc (.cells #[.int .i64 (-1)] 3)).heap.size by simp]; exact heap_alloc_new _ _)
      have f4 := row_frozen hb 0
      have f5 := row_frozen hb 1
      have f6 := row_frozen hb 2
      have f7 := row_frozen hb 3
      clear hb
      have c4 : w1.cell? ⟨w.heap.size + 1, 0, none⟩ = some (.int .i64 0) := hg.cell (by go_simp)
      have c5 : w1.cell? ⟨w.heap.size + 1, 1, none⟩ = some (.bool false) := hg.cell (by go_simp)
      have c6 : w1.cell? ⟨w.heap.size + 1, 2, none⟩ = some .nilFunc := hg.cell (by go_simp)
      have c7 : w1.cell? ⟨w.heap.size + 1, 3, none⟩ = some .nilFunc := hg.cell (by go_simp)
      go_wp2
      refine bodyPost_ret (v := .tuple #[.agg #[.int .i64 0, .bool false, .nilFunc, .nilFunc], .int .i64 20]) ?_ rfl ⟨by simp, ?_, ?_, ?_⟩
      · simp [results, Try.results33, go_sem, fnv, c4, c5, c6, c7, hm]
      · exact (((HG.out.setCell (by simp) _).setCell (by simp) _).setCell (by simp) _).setCell (by simp) _
      · go_simp
      · simp at HSZ ⊢; omega
    · go_enter Try.func33, Try.ntmps33
      go_wp2_with fail
      refine (HY.out _).mono ?_
      rintro r w1 ⟨rfl, hg⟩
      have c0 : w1.cell? ⟨w.heap.size, 0, none⟩ = some (.int .i64 (-1)) := hg.cell (by go_simp)
      have HG : Hid (Grew w w1) := (((Grew.refl w).alloc _).alloc _).trans hg
      have HSZ := hg.size
      have hb : w1.heap[w.heap.size + 1]? = some (.cells #[.int .i64 0, .bool false, .nilFunc, .nilFunc] 70) := hg.heap (by rw [show w.heap.size + 1 = (w.alloc (.cells #[.int .i64 (-1)] 3)).heap.size by simp]; exact heap_alloc_new _ _)
      have f4 := row_frozen hb 0
      have f5 := row_frozen hb 1
      have f6 := row_frozen hb 2
      have f7 := row_frozen hb 3
      clear hb
      have c4 : w1.cell? ⟨w.heap.size + 1, 0, none⟩ = some (.int .i64 0) := hg.cell (by go_simp)
      have c5 : w1.cell? ⟨w.heap.size + 1, 1, none⟩ = some (.bool false) := hg.cell (by go_simp)
      have c6 : w1.cell? ⟨w.heap.size + 1, 2, none⟩ = some .nilFunc := hg.cell (by go_simp)
      have c7 : w1.cell? ⟨w.heap.size + 1, 3, none⟩ = some .nilFunc := hg.cell (by go_simp)
      go_wp2
      refine bodyPost_ret (v := .tuple #[.agg #[.int .i64 tt, .bool (many == 0), fnv 59 #[.pointer (some ⟨w.heap.size, 0, none⟩)], fnv 60 #[]], .int .i64 0]) ?_ rfl ⟨by simp [fnv, hm], ?_, ?_, ?_⟩
      · simp [results, Try.results33, go_sem, fnv, c4, c5, c6, c7, hm]
      · exact (((HG.out.setCell (by simp) _).setCell (by simp) _).setCell (by simp) _).setCell (by simp) _
      · go_simp
      · simp at HSZ ⊢; omega
  · clear h
    cases tb
    · go_enter Try.func33, Try.ntmps33
      go_wp2_with fail
      refine (HY.out _).mono ?_
      rintro r w1 ⟨rfl, hg⟩
      have c0 : w1.cell? ⟨w.heap.size, 0, none⟩ = some (.int .i64 elem) := hg.cell (by go_simp)
      have HG : Hid (Grew w w1) := (((Grew.refl w).alloc _).alloc _).trans hg
      have HSZ := hg.size
      have hb : w1.heap[w.heap.size + 1]? = some (.cells #[.int .i64 0, .bool false, .nilFunc, .nilFunc] 70) := hg.heap (by rw [show w.heap.size + 1 = (w.alloc (.cells #[.int .i64 elem] 3)).heap.size by simp]; exact heap_alloc_new _ _)
      have f4 := row_frozen hb 0
      have f5 := row_frozen hb 1
      have f6 := row_frozen hb 2
      have f7 := row_frozen hb 3
      clear hb
      have c4 : w1.cell? ⟨w.heap.size + 1, 0, none⟩ = some (.int .i64 0) := hg.cell (by go_simp)
      have c5 : w1.cell? ⟨w.heap.size + 1, 1, none⟩ = some (.bool false) := hg.cell (by go_simp)
      have c6 : w1.cell? ⟨w.heap.size + 1, 2, none⟩ = some .nilFunc := hg.cell (by go_simp)
      have c7 : w1.cell? ⟨w.heap.size + 1, 3, none⟩ = some .nilFunc := hg.cell (by go_simp)
      go_wp2
      refine bodyPost_ret (v := .tuple #[.agg #[.int .i64 0, .bool false, .nilFunc, .nilFunc], .int .i64 20]) ?_ rfl ⟨by simp, ?_, ?_, ?_⟩
      · simp [results, Try.results33, go_sem, fnv, c4, c5, c6, c7]
      · exact (((HG.out.setCell (by simp) _).setCell (by simp) _).setCell (by simp) _).setCell (by simp) _
      · go_simp
      · simp at HSZ ⊢; omega
    · go_enter Try.func33, Try.ntmps33
      go_wp2_with fail
      refine (HY.out _).mono ?_
      rintro r w1 ⟨rfl, hg⟩
      have c0 : w1.cell? ⟨w.heap.size, 0, none⟩ = some (.int .i64 elem) := hg.cell (by go_simp)
      have HG : Hid (Grew w w1) := (((Grew.refl w).alloc _).alloc _).trans hg
      have HSZ := hg.size
      have hb : w1.heap[w.heap.size + 1]? = some (.cells #[.int .i64 0, .bool false, .nilFunc, .nilFunc] 70) := hg.heap (by rw [show w.heap.size + 1 = (w.alloc (.cells #[.int .i64 elem] 3)).heap.size by simp]; exact heap_alloc_new _ _)
      have f4 := row_frozen hb 0
      have f5 := row_frozen hb 1
      have f6 := row_frozen hb 2
      have f7 := row_frozen hb 3
      clear hb
      have c4 : w1.cell? ⟨w.heap.size + 1, 0, none⟩ = some (.int .i64 0) := hg.cell (by go_simp)
      have c5 : w1.cell? ⟨w.heap.size + 1, 1, none⟩ = some (.bool false) := hg.cell (by go_simp)
      have c6 : w1.cell? ⟨w.heap.size + 1, 2, none⟩ = some .nilFunc := hg.cell (by go_simp)
      have c7 : w1.cell? ⟨w.heap.size + 1, 3, none⟩ = some .nilFunc := hg.cell (by go_simp)
      go_wp2
      refine bodyPost_ret (v := .tuple #[.agg #[.int .i64 tt, .bool (many == 0), fnv 59 #[.pointer (some ⟨w.heap.size, 0, none⟩)], fnv 60 #[]], .int .i64 0]) ?_ rfl ⟨by simp [fnv], ?_, ?_, ?_⟩
      · simp [results, Try.results33, go_sem, fnv, c4, c5, c6, c7]
      · exact (((HG.out.setCell (by simp) _).setCell (by simp) _).setCell (by simp) _).setCell (by simp) _
      · go_simp
      · simp at HSZ ⊢; omega
theorem noTags_any (a b c : Value) (w : World) : Calls Try.prog 60 #[a, b, c] w fun r w' => r = .returned (.tuple #[]) ∧ Grew w w' := by
  go_enter Try.func60, Try.ntmps60
  go_wp2
  first | go_end0 | refine bodyPost_ret (results_none rfl _ _ _) rfl ?_
  exact ⟨rfl, Grew.refl _⟩
end Go.Proofs.Ytajpbclcfjljnaa

/-
  Package vec: Put.
-/
namespace Go.Proofs.Ytajpbclcfjljnaa
open Go Go.ChangeShapes Go.WideShapes Go.ChangeAt Go.RowKit Go.Joins
open Go.Proofs.Ytajpbclcfjljnaa.Ft (V3 vV okV ValsAt inlineB legalB packF codeF typedF allF)
set_option linter.unusedVariables false
set_option linter.unusedSimpArgs false
theorem row_cell {w : World} {p : Nat} {cs : Array Value} {t : TypeId} (h : w.heap[p]? = some (.cells cs t (0, 0))) (k : Nat) (v : Value) (hv : cs[k]? = some v) : w.cell? ⟨p, k, none⟩ = some v := by
  simp [World.cell?, h, hv]
def eachL (T : V3 → Int) (e : Int) (l : List V3) : Int := l.foldl (fun e v => if e = 0 then T v else e) e
theorem eachL_stuck (T : V3 → Int) {e : Int} (h : e ≠ 0) : ∀ l : List V3, eachL T e l = e
  | [] => rfl
  | v :: r => by
    show eachL T (if e = 0 then T v else e) r = e
    rw [if_neg h]
    exact eachL_stuck T h r
theorem eachL_drop (T : V3 → Int) (e : Int) (l : List V3) (k : Nat) (h : eachL T e (l.take k) ≠ 0) : eachL T e l = eachL T e (l.take k) := by
  have := eachL_stuck T h (l.drop k)
  unfold eachL at *
  rw [← List.foldl_append, List.take_append_drop] at this
  exact this
theorem eachL_snoc (T : V3 → Int) (e : Int) (l : List V3) (k : Nat) (h : k < l.length) (h0 : eachL T e (l.take k) = 0) : eachL T e (l.take (k + 1)) = T l[k] := by
  unfold eachL at *
  rw [List.take_succ_eq_append_getElem h, List.foldl_append]
  simp only [List.foldl_cons, List.foldl_nil]
  rw [if_pos h0]
def putF (most : Int) (T : V3 → Int) (len tagged : Bool) (kind e0 : Int) (l : List V3) (s : St) : (V3 × Int) × St :=
  if eachL T e0 l ≠ 0 then (((0, 0, 0), eachL T e0 l), s) else
  let x := allF l (0, 0, 0) s.1.length (if len then 1 else 0)
  if x = 0 then (((0, 0, 0), 211), s) else
  let s1 := alignS most x s
  let s2 := if len then numS most x l.length s1 else s1
  let s3 := elemsS most x l s2
  let s4 := if tagged then tagsS most x l s3 else s3
  if s4.2 ≠ 0 then (((0, 0, 0), s4.2), s4) else (((kind, x, (s2.1.length : Int)), 0), s4)
theorem allF_isW {l : List V3} {k : V3} {a b : Int} (h : allF l k a b ≠ 0) : isW (allF l k a b) = true := by
  revert h
  unfold allF Ft.leastOf
  repeat' split
  all_goals simp [isW]
def Mid (B : Nat) (w : World) (p : Nat) (o : Option Nat) (most : Int) (lv : Value) (l : List V3) (nR nS : Nat) (kind : Int) (len : Bool) (tg : Value) (s : St) (o' : Option Nat) (wn : World) : Prop :=
  BufAt B wn p o' s.1 most s.2 ∧ Next w o o' ∧ Moved (Own2 p o) w wn ∧ (∀ b, (b = nR ∨ b = nS ∨ ∃ ad n c, lv = .slice (some ad) n c ∧ ad.block = b) → b < wn.heap.size ∧ ¬ Own2 p o' b) ∧ ValsAt wn lv l ∧
    wn.heap[nR]? = some (.cells #[.int .i64 0, .int .i64 0, .int .u64 0] 30) ∧ wn.cell? ⟨nS, 0, none⟩ = some (.int .i64 kind) ∧ wn.cell? ⟨nS, 1, none⟩ = some (.bool len) ∧ wn.cell? ⟨nS, 3, none⟩ = some tg
theorem vals_moved {w w' : World} {S : Nat → Prop} {lv : Value} {l : List V3} (h : ValsAt w lv l) (hm : Moved S w w') (hap : ∀ ad n c, lv = .slice (some ad) n c → ¬ S ad.block) : ValsAt w' lv l := by
  obtain ⟨a, c, rfl, hc⟩ := h
  refine ⟨a, c, rfl, fun i x hx => ?_⟩
  obtain ⟨b, off, rfl, h0, h1, h2⟩ := hc i x hx
  have hn : ¬ S b := hap ⟨b, off, none⟩ _ _ rfl
  exact ⟨b, off, rfl, hm.cell h0 hn, hm.cell h1 hn, hm.cell h2 hn⟩
theorem Mid.step {B : Nat} {w : World} {p : Nat} {o : Option Nat} {most : Int} {lv : Value} {l : List V3} {nR nS : Nat} {kind : Int} {len : Bool} {tg : Value} {s s' : St} {o' : Option Nat} {wn wm : World} (h : Mid B w p o most lv l nR nS kind len tg s o' wn) (ht : TurnB B wn wm p o' most s') :
    ∃ o2, Mid B w p o most lv l nR nS kind len tg s' o2 wm := by
  obtain ⟨hb, hn, hm, hk, hv, hr, g0, g1, g3⟩ := h
  obtain ⟨o2, b2, n2, m2⟩ := ht
  have kR := (hk nR (.inl rfl)).2
  have kS := (hk nS (.inr (.inl rfl))).2
  refine ⟨o2, b2, hn.trans n2 hm.size, hm.own hn m2, fun b hb => ?_, vals_moved hv m2 fun ad n c e => (hk _ (.inr (.inr ⟨ad, n, c, e, rfl⟩))).2, m2.heap hr kR, m2.cell g0 kS, m2.cell g1 kS, m2.cell g3 kS⟩
  have h1 := hk b hb
  refine ⟨Nat.lt_of_lt_of_le h1.1 m2.size, ?_⟩
  rintro (e | e)
  · exact h1.2 (.inl e)
  · rcases n2 b e.symm with e2 | e2
    · exact h1.2 (.inr e2.symm)
    · omega
theorem Mid.turnSet {B : Nat} {w : World} {p : Nat} {o : Option Nat} {most : Int} {lv : Value} {l : List V3} {nR nS : Nat} {kind : Int} {len : Bool} {tg : Value} {s : St} {o' : Option Nat} {wn : World} (h : Mid B w p o most lv l nR nS kind len tg s o' wn) (hge : w.heap.size ≤ nR) (v0 v1 v2 : Value) :
    TurnB B w (((wn.setCell ⟨nR, 0, none⟩ v0).setCell ⟨nR, 1, none⟩ v1).setCell ⟨nR, 2, none⟩ v2) p o most s := by
  obtain ⟨hb, hn, hm, hk, _⟩ := h
  have kR := (hk nR (.inl rfl)).2
  have m : Moved (fun k => k = nR) wn (((wn.setCell ⟨nR, 0, none⟩ v0).setCell ⟨nR, 1, none⟩ v1).setCell ⟨nR, 2, none⟩ v2) :=
    Moved.setCell (S := fun k => k = nR) (p := ⟨nR, 2, none⟩) (Moved.setCell (S := fun k => k = nR) (p := ⟨nR, 1, none⟩) (Moved.setCell (S := fun k => k = nR) (p := ⟨nR, 0, none⟩) (Moved.refl _ wn) (fun _ => rfl) v0) (fun _ => rfl) v1) (fun _ => rfl) v2
  refine ⟨o', hb.kept m (fun e => kR (.inl e.symm)) (fun k e e2 => kR (.inr (by rw [e, e2]))), hn, hm.trans m fun j hj e => by omega⟩
theorem Mid.turn {B : Nat} {w : World} {p : Nat} {o : Option Nat} {most : Int} {lv : Value} {l : List V3} {nR nS : Nat} {kind : Int} {len : Bool} {tg : Value} {s : St} {o' : Option Nat} {wn : World} (h : Mid B w p o most lv l nR nS kind len tg s o' wn) : TurnB B w wn p o most s := ⟨o', h.1, h.2.1, h.2.2.1⟩
theorem ok0 : okV (0, 0, 0) := by unfold okV; simp
def putV (q : V3 × Int) : Value := .tuple #[vV q.1, .int .i64 q.2]
set_option maxRecDepth 100000 in
set_option maxHeartbeats 2000000 in
theorem put_un {B : Nat} {w : World} {p : Nat} {o : Option Nat} {most : Int} (s : St) (lv : Value) (l : List V3) (h : BufAt B w p o s.1 most s.2) (hB : B ≤ w.heap.size) (hl : (s.1.length : Int) ≤ most) (hm1 : most ≤ 1048576)
    (hv : ValsAt w lv l) (hlen : l.length ≤ 1048576) (hok : ∀ v ∈ l, okV v) (hap : ∀ ad n c, lv = .slice (some ad) n c → ad.block < w.heap.size ∧ ¬ Own2 p o ad.block) (hs : s.2 = 0) :
    Calls Try.prog 12 #[bptr p, .int .i64 (-1), .int .i64 0, lv] w fun r w' => r = .returned (putV (putF most legalE true true 10 0 l s).1) ∧ TurnB B w w' p o most (putF most legalE true true 10 0 l s).2 := by
  have HB0 := Lib.hid h
  have HA := Lib.hid hap
  have HOK := Lib.hid hok
  have HV := Lib.hid hv
  obtain ⟨a, c, rfl, hcell⟩ := hv
  have HC := Lib.hid hcell
  have HP := Lib.hid (rfl : putF most legalE true true 10 0 l s = putF most legalE true true 10 0 l s)
  generalize hP : putF most legalE true true 10 0 l s = P
  have HPP := Lib.hid hP
  clear h hap hok hcell HP hP
  go_enter Try.func12, Try.ntmps12
  go_wp2_with fail
  refine (err_any (HB0.out.grew ((Grew.refl w).alloc _))).mono ?_
  rw [hs]
  rintro r w1 ⟨rfl, rfl⟩
  go_wp2_with fail
  refine (shaped_un _).mono ?_
  rintro r w1 ⟨rfl, hg⟩
  have hb : w1.heap[w.heap.size]? = some (.cells #[.int .i64 0, .int .i64 0, .int .u64 0] 30) := hg.heap (heap_alloc_new _ _)
  have HR := Lib.hid hb
  have HG : Hid (Grew w w1) := ((Grew.refl w).alloc _).trans hg
  have HSZ := Lib.hid hg.size
  clear hb hg
  go_wp2_with fail
  go_loopw [12, 13] (fun e i wr => ∃ k : Nat, k ≤ l.length ∧ i = .int .i64 k ∧ e = .int .i64 (eachL legalE 0 (l.take k)) ∧ Hid (Grew w wr ∧ wr.heap[w.heap.size]? = some (.cells #[.int .i64 0, .int .i64 0, .int .u64 0] 30) ∧ wr.cell? ⟨w1.heap.size, 0, none⟩ = some (.int .i64 10) ∧ wr.cell? ⟨w1.heap.size, 1, none⟩ = some (.bool true) ∧ wr.cell? ⟨w1.heap.size, 2, none⟩ = some (fnv 56 #[]) ∧ wr.cell? ⟨w1.heap.size, 3, none⟩ = some (fnv 57 #[]))) (fun _ i _ => l.length - (intOf i).toNat)
  case atStart =>
    refine ⟨0, Nat.zero_le _, rfl, rfl, ?_⟩
    show _ ∧ _
    exact ⟨HG.out.alloc _, ((Grew.refl w1).alloc _).heap HR.out, by go_simp, by go_simp, by go_simp, by go_simp⟩
  case round =>
    obtain ⟨k, hk, rfl, rfl, HW⟩ := hrel
    by_cases hlt : k < l.length
    · by_cases he : eachL legalE 0 (l.take k) = 0
      · obtain ⟨bl, off, rfl, q0, q1, q2⟩ := HC.out k l[k] (List.getElem?_eq_getElem hlt)
        have HSN := Lib.hid (eachL_snoc legalE 0 l k hlt he)
        have d0 := HW.out.1.cell q0
        have d1 := HW.out.1.cell q1
        have d2 := HW.out.1.cell q2
        have g2 := HW.out.2.2.2.2.1
        rw [he]
        generalize l[k] = v at *
        obtain ⟨ty, wd, vn⟩ := v
        simp only at d0 d1 d2
        clear q0 q1 q2
        go_wp2_with fail
        refine wp_region_tables Grew [[], [0], [], [], [2, 3], [4], [1, 5], [6]] [[(54, 2), (55, 3), (56, 4), (57, 5), (58, 6), (12, 7)], [(52, 0), (54, 2), (55, 3), (56, 4), (57, 5), (12, 7)], [(52, 0), (53, 1), (55, 3), (57, 5), (58, 6), (12, 7)], [(52, 0), (53, 1), (54, 2), (57, 5), (58, 6), (12, 7)], [(52, 0), (53, 1), (54, 2), (55, 3), (58, 6), (12, 7)], [(52, 0), (53, 1), (54, 2), (55, 3), (56, 4), (12, 7)], [(52, 0), (53, 1), (54, 2), (55, 3), (56, 4), (57, 5)], [(52, 0), (53, 1), (54, 2), (55, 3), (56, 4), (57, 5), (58, 6)]] [(52, 0), (53, 1), (54, 2), (55, 3), (56, 4), (57, 5), (58, 6), (12, 7)]
          [Is (.pointer (some ⟨w1.heap.size, 2, none⟩)), Is (fnv 56 #[]), Is (.slice (some ⟨bl, off, none⟩) l.length c), Is (.int .i64 k), Is (.pointer (some ⟨bl, off + k * 3, none⟩)), Is (.agg #[.int .i64 ty, .int .i64 wd, .int .u64 vn]), Is (.int .i64 (legalE (ty, wd, vn))), Is (.int .i64 (legalE (ty, wd, vn)))]
          (by kernel_rfl) Grew.trans Grew.refl (Grew.refl _).drew (by kernel_rfl) ⟨is_st, is_st, is_st, is_st, is_st, is_st, is_st, is_st, trivial⟩ ⟨?_, ?_, ?_, ?_, ?_, ?_, ?_, ?_, trivial⟩ rfl ?_
        · intro y w2 hG hD K hK
          simp only [fillL, Act.put, List.setIfInBounds_toArray, List.set_cons_zero, List.set_cons_succ, List.getD_cons_zero, List.getD_cons_succ, Is] at hK ⊢
          refine ite_yes (by rfl) ?_
          go_simp
          exact hK _ _ _ rfl (Grew.refl _) rfl
        · intro y w2 hG hD K hK
          simp only [depsH, List.getD_cons_zero, List.getD_cons_succ, Is, and_true] at hD
          have h0 := hD
          clear hD
          have dg2 := hG.cell g2
          have dd0 := hG.cell d0
          have dd1 := hG.cell d1
          have dd2 := hG.cell d2
          simp only [fillL, Act.put, List.setIfInBounds_toArray, List.set_cons_zero, List.set_cons_succ, List.getD_cons_zero, List.getD_cons_succ, Is] at hK ⊢
          rw [h0] at hK ⊢
          clear h0
          refine ite_yes (by rfl) ?_
          go_simp
          exact hK _ _ _ rfl (Grew.refl _) rfl
        · intro y w2 hG hD K hK
          simp only [fillL, Act.put, List.setIfInBounds_toArray, List.set_cons_zero, List.set_cons_succ, List.getD_cons_zero, List.getD_cons_succ, Is] at hK ⊢
          refine ite_yes (by rfl) ?_
          go_simp
          exact hK _ _ _ rfl (Grew.refl _) rfl
        · intro y w2 hG hD K hK
          simp only [fillL, Act.put, List.setIfInBounds_toArray, List.set_cons_zero, List.set_cons_succ, List.getD_cons_zero, List.getD_cons_succ, Is] at hK ⊢
          refine ite_yes (by rfl) ?_
          go_simp
          exact hK _ _ _ rfl (Grew.refl _) rfl
        · intro y w2 hG hD K hK
          simp only [depsH, List.getD_cons_zero, List.getD_cons_succ, Is, and_true] at hD
          have h2 := hD.1
          have h3 := hD.2
          clear hD
          simp only [fillL, Act.put, List.setIfInBounds_toArray, List.set_cons_zero, List.set_cons_succ, List.getD_cons_zero, List.getD_cons_succ, Is] at hK ⊢
          rw [h2, h3] at hK ⊢
          clear h2 h3
          refine ite_yes (by rfl) ?_
          go_simp
          exact hK _ _ _ rfl (Grew.refl _) rfl
        · intro y w2 hG hD K hK
          simp only [depsH, List.getD_cons_zero, List.getD_cons_succ, Is, and_true] at hD
          have h4 := hD
          clear hD
          have dg2 := hG.cell g2
          have dd0 := hG.cell d0
          have dd1 := hG.cell d1
          have dd2 := hG.cell d2
          simp only [fillL, Act.put, List.setIfInBounds_toArray, List.set_cons_zero, List.set_cons_succ, List.getD_cons_zero, List.getD_cons_succ, Is] at hK ⊢
          rw [h4] at hK ⊢
          clear h4
          refine ite_yes (by rfl) ?_
          go_simp
          exact hK _ _ _ rfl (Grew.refl _) rfl
        · intro y w2 hG hD K hK
          simp only [depsH, List.getD_cons_zero, List.getD_cons_succ, Is, and_true] at hD
          have h1 := hD.1
          have h5 := hD.2
          clear hD
          simp only [fillL, Act.put, List.setIfInBounds_toArray, List.set_cons_zero, List.set_cons_succ, List.getD_cons_zero, List.getD_cons_succ, Is] at hK ⊢
          rw [h1, h5] at hK ⊢
          clear h1 h5
          refine ite_yes (by rfl) ?_
          go_simp
          refine (legalV_any (ty, wd, vn) _).mono ?_
          rintro r w3 ⟨rfl, hg⟩
          exact hK _ _ _ rfl hg rfl
        · intro y w2 hG hD K hK
          simp only [depsH, List.getD_cons_zero, List.getD_cons_succ, Is, and_true] at hD
          have h6 := hD
          clear hD
          simp only [fillL, Act.put, List.setIfInBounds_toArray, List.set_cons_zero, List.set_cons_succ, List.getD_cons_zero, List.getD_cons_succ, Is] at hK ⊢
          rw [h6] at hK ⊢
          clear h6
          refine ite_yes (by rfl) ?_
          go_simp
          exact hK _ _ _ rfl (Grew.refl _) rfl
        · intro y w2 hG hF
          simp only [factsH, Is, and_true, Nat.reduceAdd] at hF
          have h0 := hF.1
          have h1 := hF.2.1
          have h2 := hF.2.2.1
          have h3 := hF.2.2.2.1
          have h4 := hF.2.2.2.2.1
          have h5 := hF.2.2.2.2.2.1
          have h6 := hF.2.2.2.2.2.2.1
          have h7 := hF.2.2.2.2.2.2.2
          clear hF
          simp only [fillL, Act.put, List.setIfInBounds_toArray, List.set_cons_zero, List.set_cons_succ, List.getD_cons_zero, List.getD_cons_succ, Is]
          rw [h0, h1, h2, h3, h4, h5, h6, h7]
          clear h0 h1 h2 h3 h4 h5 h6 h7
          have HG2 := Lib.hid (HW.out.1.trans hG)
          have HGG := Lib.hid hG
          clear hG
          go_wp2
          go_roundw
          case rel =>
            have hw := HW.out
            have hgg := HGG.out
            exact ⟨k + 1, by omega, by go_num, by rw [HSN.out], HG2.out, hgg.heap hw.2.1, hgg.cell hw.2.2.1, hgg.cell hw.2.2.2.1, hgg.cell hw.2.2.2.2.1, hgg.cell hw.2.2.2.2.2⟩
          case measure => simp [intOf]; omega
      · have hF : putF most legalE true true 10 0 l s = (((0, 0, 0), eachL legalE 0 (l.take k)), s) := by
          unfold putF
          rw [eachL_drop legalE 0 l k he, if_pos he]
        have HF := Lib.hid hF
        clear hF
        generalize eachL legalE 0 (l.take k) = e at *
        obtain ⟨hgw, hrow, _, _, _, _⟩ := HW.out
        have f0 := row_frozen hrow 0
        have f1 := row_frozen hrow 1
        have f2 := row_frozen hrow 2
        have c0 := row_cell hrow 0 _ rfl
        have c1 := row_cell hrow 1 _ rfl
        have c2 := row_cell hrow 2 _ rfl
        have HGW := Lib.hid hgw
        clear hrow hgw
        go_wp2
        refine bodyPost_ret (v := putV ((0, 0, 0), e)) ?_ rfl ⟨?_, ?_⟩
        · simp [results, Try.results12, go_sem, c0, c1, c2, putV, vV]
        · rw [← HPP.out, HF.out]
        · rw [← HPP.out, HF.out]
          exact (TurnB.refl HB0.out).grew ((((HGW.out).setCell (Nat.le_refl _) _).setCell (Nat.le_refl _) _).setCell (Nat.le_refl _) _)
    · have ek : k = l.length := by omega
      rw [ek, List.take_length]
      by_cases he : eachL legalE 0 l = 0
      · rw [he]
        clear hlt
        obtain ⟨hgw, hrow, g0, g1, g2, g3⟩ := HW.out
        have HGW := Lib.hid hgw
        have HROW := Lib.hid hrow
        clear hrow hgw HW
        go_wp2_with fail
        refine (len_any (HB0.out.grew HGW.out)).mono ?_
        rintro r w3 ⟨rfl, rfl⟩
        go_wp2_with fail
        refine (Ft.all_any l (0, 0, 0) _ 1 _ _ (by omega) HOK.out ok0 (HV.out.grew HGW.out)).mono ?_
        rintro r w3 ⟨rfl, hg⟩
        have HG3 := Lib.hid (HGW.out.trans hg)
        have HROW3 := Lib.hid (hg.heap HROW.out)
        replace g0 := hg.cell g0
        replace g1 := hg.cell g1
        replace g3 := hg.cell g3
        clear hg g2
        by_cases hx : allF l (0, 0, 0) s.1.length 1 = 0
        · have hF : putF most legalE true true 10 0 l s = (((0, 0, 0), 211), s) := by
            unfold putF
            rw [if_neg (by simpa using he)]
            simp [hx]
          have HF := Lib.hid hF
          clear hF
          rw [hx]
          have hrow := HROW3.out
          have f0 := row_frozen hrow 0
          have f1 := row_frozen hrow 1
          have f2 := row_frozen hrow 2
          have c0 := row_cell hrow 0 _ rfl
          have c1 := row_cell hrow 1 _ rfl
          have c2 := row_cell hrow 2 _ rfl
          clear hrow
          go_wp2
          refine bodyPost_ret (v := putV ((0, 0, 0), 211)) ?_ rfl ⟨?_, ?_⟩
          · simp [results, Try.results12, go_sem, c0, c1, c2, putV, vV]
          · rw [← HPP.out, HF.out]
          · rw [← HPP.out, HF.out]
            exact (TurnB.refl HB0.out).grew ((((HG3.out).setCell (Nat.le_refl _) _).setCell (Nat.le_refl _) _).setCell (Nat.le_refl _) _)
        · have HX := Lib.hid (allF_isW hx)
          have HXE := Lib.hid (rfl : allF l (0, 0, 0) s.1.length 1 = allF l (0, 0, 0) s.1.length 1)
          have HF : Hid (∀ x, allF l (0, 0, 0) s.1.length 1 = x → x ≠ 0 → putF most legalE true true 10 0 l s = if (tagsS most x l (elemsS most x l (numS most x l.length (alignS most x s)))).2 ≠ 0 then (((0, 0, 0), (tagsS most x l (elemsS most x l (numS most x l.length (alignS most x s)))).2), tagsS most x l (elemsS most x l (numS most x l.length (alignS most x s)))) else (((10, x, ((numS most x l.length (alignS most x s)).1.length : Int)), 0), tagsS most x l (elemsS most x l (numS most x l.length (alignS most x s))))) := by
            show ∀ x, _ = x → _
            intro x hx hx0
            unfold putF
            rw [if_neg (by simpa using he)]
            simp only [if_true]
            rw [hx, if_neg hx0]
          replace HF := Lib.hid (HF.out _ rfl hx)
          have M3 : Mid B w p o most (.slice a l.length c) l w.heap.size w1.heap.size 10 true (fnv 57 #[]) s o w3 := by
            have hs3 := HG3.out.size
            have hlt1 := lt_of_cell g0
            have hb0 := HB0.out.lt
            have hs1 := HG.out.size
            refine ⟨HB0.out.grew HG3.out, Next.refl _ _, Moved.of_grew HG3.out, ?_, HV.out.grew HG3.out, HROW3.out, g0, g1, g3⟩
            rintro b (rfl | rfl | ⟨ad, n, c', e, rfl⟩)
            · exact ⟨by simp at hlt1; omega, fun h => by have := hb0 _ h; omega⟩
            · exact ⟨by simpa using hlt1, fun h => by have := hb0 _ h; omega⟩
            · have := HA.out ad n c' e
              exact ⟨by omega, this.2⟩
          have HM3 := Lib.hid M3
          have HB3 : B ≤ w3.heap.size := Nat.le_trans hB HG3.out.size
          clear M3 HXE g0 g1 g3 HROW3 HROW HG3 HGW
          generalize allF l (0, 0, 0) s.1.length 1 = x at *
          go_wp2_with fail
          refine (align_any s x HM3.out.1 HB3 hl hm1).mono ?_
          rintro r w4 ⟨rfl, ht⟩
          have HB4 : B ≤ w4.heap.size := by obtain ⟨_, _, _, m⟩ := ht; exact Nat.le_trans HB3 m.size
          obtain ⟨o4, m4⟩ := HM3.out.step ht
          have g1 := m4.2.2.2.2.2.2.2.1
          have HM4 := Lib.hid m4
          clear ht m4
          go_wp2_with fail
          refine (num_any (alignS most x s) x (l.length : Int) HM4.out.1 HB4 (alignS_le hl) hm1 (by omega) (by omega)).mono ?_
          rintro r w5 ⟨rfl, ht⟩
          have HB5 : B ≤ w5.heap.size := by obtain ⟨_, _, _, m⟩ := ht; exact Nat.le_trans HB4 m.size
          obtain ⟨o5, m5⟩ := HM4.out.step ht
          have HM5 := Lib.hid m5
          clear ht m5 g1
          go_wp2_with fail
          refine (len_any HM5.out.1).mono ?_
          rintro r w6 ⟨rfl, rfl⟩
          go_wp2_with fail
          refine (elements_any (numS most x l.length (alignS most x s)) x _ l HX.out HM5.out.1 HB5 (numS_le (alignS_le hl)) hm1 HM5.out.2.2.2.2.1 hlen HOK.out (fun ad n c' e => (HM5.out.2.2.2.1 _ (.inr (.inr ⟨ad, n, c', e, rfl⟩))).2)).mono ?_
          rintro r w6 ⟨rfl, ht⟩
          have HB6 : B ≤ w6.heap.size := by obtain ⟨_, _, _, m⟩ := ht; exact Nat.le_trans HB5 m.size
          obtain ⟨o6, m6⟩ := HM5.out.step ht
          have g3 := m6.2.2.2.2.2.2.2.2
          have HM6 := Lib.hid m6
          clear ht m6
          go_wp2_with fail
          refine (tags_any (elemsS most x l (numS most x l.length (alignS most x s))) x _ l HM6.out.1 HB6 (elemsS_le l (numS_le (alignS_le hl))) hm1 HM6.out.2.2.2.2.1 hlen (fun ad n c' e => (HM6.out.2.2.2.1 _ (.inr (.inr ⟨ad, n, c', e, rfl⟩))).2)).mono ?_
          rintro r w7 ⟨rfl, ht⟩
          obtain ⟨o7, m7⟩ := HM6.out.step ht
          have g0 := m7.2.2.2.2.2.2.1
          have hrow := m7.2.2.2.2.2.1
          have HM7 := Lib.hid m7
          clear ht m7 g3
          go_wp2_with fail
          refine (err_any HM7.out.1).mono ?_
          rintro r w8 ⟨rfl, rfl⟩
          have hn2 := numS_le (x := x) (u := (l.length : Int)) (alignS_le (x := x) hl)
          by_cases hz : (tagsS most x l (elemsS most x l (numS most x l.length (alignS most x s)))).2 = 0
          · have HF2 : Hid (putF most legalE true true 10 0 l s = (((10, x, ((numS most x l.length (alignS most x s)).1.length : Int)), 0), (tagsS most x l (elemsS most x l (numS most x l.length (alignS most x s)))))) := HF.out.trans (if_neg (by simpa using hz))
            rw [hz]
            clear HF hz HM3 HM4 HM5 HM6
            generalize (tagsS most x l (elemsS most x l (numS most x l.length (alignS most x s)))) = sf at *
            generalize numS most x l.length (alignS most x s) = s2 at *
            have f0 := row_frozen hrow 0
            have f1 := row_frozen hrow 1
            have f2 := row_frozen hrow 2
            have c0 := row_cell hrow 0 _ rfl
            have c1 := row_cell hrow 1 _ rfl
            have c2 := row_cell hrow 2 _ rfl
            clear hrow
            go_wp2
            refine bodyPost_ret (v := putV ((10, x, (s2.1.length : Int)), 0)) ?_ rfl ⟨?_, ?_⟩
            · simp [results, Try.results12, go_sem, c0, c1, c2, putV, vV]
            · rw [← HPP.out, HF2.out]
            · rw [← HPP.out, HF2.out]
              exact HM7.out.turnSet (Nat.le_refl _) _ _ _
          · have HF2 : Hid (putF most legalE true true 10 0 l s = (((0, 0, 0), (tagsS most x l (elemsS most x l (numS most x l.length (alignS most x s)))).2), (tagsS most x l (elemsS most x l (numS most x l.length (alignS most x s)))))) := HF.out.trans (if_pos (by simpa using hz))
            clear HF HM3 HM4 HM5 HM6
            generalize (tagsS most x l (elemsS most x l (numS most x l.length (alignS most x s)))) = sf at *
            have f0 := row_frozen hrow 0
            have f1 := row_frozen hrow 1
            have f2 := row_frozen hrow 2
            have c0 := row_cell hrow 0 _ rfl
            have c1 := row_cell hrow 1 _ rfl
            have c2 := row_cell hrow 2 _ rfl
            clear hrow
            go_wp2
            refine bodyPost_ret (v := putV ((0, 0, 0), sf.2)) ?_ rfl ⟨?_, ?_⟩
            · simp [results, Try.results12, go_sem, c0, c1, c2, putV, vV]
            · rw [← HPP.out, HF2.out]
            · rw [← HPP.out, HF2.out]
              exact HM7.out.turnSet (Nat.le_refl _) _ _ _
      · have hF : putF most legalE true true 10 0 l s = (((0, 0, 0), eachL legalE 0 l), s) := by
          unfold putF
          rw [if_pos he]
        have HF := Lib.hid hF
        clear hF
        generalize eachL legalE 0 l = e at *
        obtain ⟨hgw, hrow, _, _, _, _⟩ := HW.out
        have f0 := row_frozen hrow 0
        have f1 := row_frozen hrow 1
        have f2 := row_frozen hrow 2
        have c0 := row_cell hrow 0 _ rfl
        have c1 := row_cell hrow 1 _ rfl
        have c2 := row_cell hrow 2 _ rfl
        have HGW := Lib.hid hgw
        clear hrow hgw
        go_wp2
        refine bodyPost_ret (v := putV ((0, 0, 0), e)) ?_ rfl ⟨?_, ?_⟩
        · simp [results, Try.results12, go_sem, c0, c1, c2, putV, vV]
        · rw [← HPP.out, HF.out]
        · rw [← HPP.out, HF.out]
          exact (TurnB.refl HB0.out).grew ((((HGW.out).setCell (Nat.le_refl _) _).setCell (Nat.le_refl _) _).setCell (Nat.le_refl _) _)
end Go.Proofs.Ytajpbclcfjljnaa

/-
  Vectors: the law's value.
-/
namespace Go.Proofs.Ytajpbclcfjljnaa
open Go Go.ChangeShapes Go.WideShapes Go.ChangeAt Go.RowKit Go.Joins
open Go.Proofs.Ytajpbclcfjljnaa.Ft (V3 vV okV ValsAt inlineB legalB packF codeF typedF allF)
set_option linter.unusedVariables false
set_option linter.unusedSimpArgs false
def widF (n : Int) : Int := if 2147483648 ≤ n then 8 else if 32768 ≤ n then 4 else if 128 ≤ n then 2 else 1
def kindF (k : Int) : Int := if k = 0 then 5 else if k = 1 then 4 else if k = 2 then 10 else if k = 3 then 6 else 9
def shlF (k : Int) : Int := if k = 0 then 1 else if k = 1 then 2 else if k = 2 then 4 else 8
def farF (n a : Int) : V3 := (kindF (n % 5), shlF (n / 5 % 4), n % max a 1)
def valN (k n a : Int) : V3 :=
  if k = 0 then (1, widF n, n) else if k = 1 then (1, widF n, IntKind.u64.wrap (-n)) else if k = 2 then (2, widF n, n) else if k = 3 then (26, 1, n % 2) else farF n a
def valF (x : Int × Int) (a : Int) : V3 := valN (x.1 % 6) (x.2 % 1099511627776) a
abbrev pairV (x : Int × Int) : Value := .agg #[.int .i64 x.1, .int .i64 x.2]
abbrev tabC : Array Value := #[.int .i64 5, .int .i64 4, .int .i64 10, .int .i64 6, .int .i64 9]
theorem tab_cell (k : Nat) (hk : k < 5) : tabC[k]? = some (.int .i64 (kindF k)) := by
  rcases (show k = 0 ∨ k = 1 ∨ k = 2 ∨ k = 3 ∨ k = 4 by omega) with rfl | rfl | rfl | rfl | rfl <;> rfl
theorem shl_small (k : Nat) (hk : k < 4) : IntKind.i64.wrap ((2 : Int) ^ k) = shlF k := by
  rcases (show k = 0 ∨ k = 1 ∨ k = 2 ∨ k = 3 by omega) with rfl | rfl | rfl | rfl <;> rfl
theorem tab_st : ∀ (v : Value) (w w' : World), Grew w w' → (∃ g, v = .slice (some ⟨g, 0, none⟩) 5 5 ∧ w.heap[g]? = some (.cells tabC 3)) → (∃ g, v = .slice (some ⟨g, 0, none⟩) 5 5 ∧ w'.heap[g]? = some (.cells tabC 3)) := fun v w w' hg ⟨g, h1, h2⟩ => ⟨g, h1, hg.heap h2⟩
theorem tabp_st {k5 : Nat} : ∀ (v : Value) (w w' : World), Grew w w' → (∃ g, v = .pointer (some ⟨g, k5, none⟩) ∧ w.heap[g]? = some (.cells tabC 3)) → (∃ g, v = .pointer (some ⟨g, k5, none⟩) ∧ w'.heap[g]? = some (.cells tabC 3)) := fun v w w' hg ⟨g, h1, h2⟩ => ⟨g, h1, hg.heap h2⟩
end Go.Proofs.Ytajpbclcfjljnaa

/-
  Vectors: the law's values.
-/
namespace Go.Proofs.Ytajpbclcfjljnaa
open Go Go.ChangeShapes Go.WideShapes Go.ChangeAt Go.RowKit Go.Joins
open Go.Proofs.Ytajpbclcfjljnaa.Ft (V3 vV okV ValsAt inlineB legalB packF codeF typedF allF)
set_option linter.unusedVariables false
set_option linter.unusedSimpArgs false
def cellsV (v : V3) : List Value := [.int .i64 v.1, .int .i64 v.2.1, .int .u64 v.2.2]
def valCells (l : List V3) : List Value := l.flatMap cellsV
theorem length_valCells (l : List V3) : (valCells l).length = l.length * 3 := by
  induction l with
  | nil => rfl
  | cons v r ih => 
    have : valCells (v :: r) = cellsV v ++ valCells r := rfl
    rw [this, List.length_append, ih, List.length_cons]
    show 3 + _ = _
    omega
theorem valCells_append (l m : List V3) : valCells (l ++ m) = valCells l ++ valCells m := by simp [valCells]
theorem valCells_get (l : List V3) (i : Nat) (v : V3) (h : l[i]? = some v) : (valCells l)[i * 3]? = some (.int .i64 v.1) ∧ (valCells l)[i * 3 + 1]? = some (.int .i64 v.2.1) ∧ (valCells l)[i * 3 + 2]? = some (.int .u64 v.2.2) := by
  induction l generalizing i with
  | nil => simp at h
  | cons u r ih =>
    have e : valCells (u :: r) = .int .i64 u.1 :: .int .i64 u.2.1 :: .int .u64 u.2.2 :: valCells r := rfl
    rw [e]
    cases i with
    | zero => simp at h; subst h; simp
    | succ i =>
      have h2 := ih i (by simpa using h)
      rw [show (i + 1) * 3 = i * 3 + 1 + 1 + 1 by omega, show i * 3 + 1 + 1 + 1 + 1 = (i * 3 + 1) + 1 + 1 + 1 by omega, show i * 3 + 1 + 1 + 1 + 2 = (i * 3 + 2) + 1 + 1 + 1 by omega]
      simpa only [List.getElem?_cons_succ] using h2
def OwnVals (w : World) (B : Nat) (v : Value) (l : List V3) : Prop := w.ownsRow B 30 3 v l.length (valCells l)
theorem OwnVals.vals {w : World} {B : Nat} {v : Value} {l : List V3} (h : OwnVals w B v l) : ValsAt w v l := by
  have h0 := h
  obtain ⟨_, h2⟩ := h
  rcases h2 with ⟨rfl, hn⟩ | ⟨g, cap, cur, rfl, _, _, hn, _⟩
  · have : l = [] := List.length_eq_zero_iff.1 hn
    subst this
    exact ⟨none, 0, rfl, fun i x hx => by simp at hx⟩
  · refine ⟨some ⟨g, 0, none⟩, cap, rfl, fun i x hx => ⟨g, 0, rfl, ?_⟩⟩
    have hi := (List.getElem?_eq_some_iff.1 hx).1
    obtain ⟨e0, e1, e2⟩ := valCells_get l i x hx
    have hc := World.ownsRow.cells h0 rfl
    have a : ∀ j, (⟨g, 0, none⟩ : Addr).add j = ⟨g, 0 + j, none⟩ := by
      intro j
      unfold Addr.add
      split
      · rename_i h; subst h; rfl
      · rfl
    have c0 := hc _ _ e0
    have c1 := hc _ _ e1
    have c2 := hc _ _ e2
    rw [a] at c0 c1 c2
    exact ⟨c0, c1, c2⟩
def PairsAt (w : World) (v : Value) (l : List (Int × Int)) : Prop :=
  ∃ a c, v = .slice a l.length c ∧ ∀ (i : Nat) (x : Int × Int), l[i]? = some x → ∃ b off, a = some ⟨b, off, none⟩ ∧ w.cell? ⟨b, off + i * 2, none⟩ = some (.int .i64 x.1) ∧ w.cell? ⟨b, off + i * 2 + 1, none⟩ = some (.int .i64 x.2)
theorem PairsAt.grew {w w' : World} {v : Value} {l : List (Int × Int)} (h : PairsAt w v l) (hg : Grew w w') : PairsAt w' v l := by
  obtain ⟨a, c, h1, h2⟩ := h
  refine ⟨a, c, h1, fun i x hx => ?_⟩
  obtain ⟨b, off, e, c0, c1⟩ := h2 i x hx
  exact ⟨b, off, e, hg.cell c0, hg.cell c1⟩
def valsF (l : List (Int × Int)) (a : Int) : List V3 := (l.take 300).map (valF · a)
theorem valsF_length (l : List (Int × Int)) (a : Int) : (valsF l a).length = min 300 l.length := by simp [valsF]
theorem valsF_all (l : List (Int × Int)) (a : Int) : valsF (l.take 300) a = valsF l a := by simp [valsF, List.take_take]
theorem valsF_snoc {l : List (Int × Int)} {k : Nat} {x : Int × Int} (h : l[k]? = some x) (hk : k < 300) (a : Int) : valsF (l.take k) a ++ [valF x a] = valsF (l.take (k + 1)) a := by
  obtain ⟨hl, hx⟩ := List.getElem?_eq_some_iff.1 h
  unfold valsF
  rw [List.take_take, List.take_take, Nat.min_eq_right (by omega : k ≤ 300), Nat.min_eq_right (by omega : k + 1 ≤ 300), List.take_succ_eq_append_getElem hl, List.map_append, hx]
  rfl
theorem Try.infoVal : (Try.prog.info? 30).map (fun i => (i.zero, i.size, i.bytes)) = some (some (.agg #[.int .i64 0, .int .i64 0, .int .u64 0]), 3, 24) := by kernel_rfl
theorem val_parts : ∃ i0, Try.prog.info? 30 = some i0 ∧ i0.zero = some (.agg #[.int .i64 0, .int .i64 0, .int .u64 0]) ∧ i0.size = 3 ∧ i0.bytes = 24 := by
  have h := Try.infoVal
  cases hq : Try.prog.info? 30 with
  | none => simp [hq] at h
  | some i => simp [hq] at h; exact ⟨i, rfl, h.1, h.2.1, h.2.2⟩
theorem vals_cells {w : World} {ad : Addr} {cap : Nat} {l : List V3} (h : ValsAt w (.slice (some ad) l.length cap) l) : ∀ j u, (valCells l)[j]? = some u → w.cell? (ad.add j) = some u := by
  obtain ⟨a0, c0, e, hc⟩ := h
  cases e
  intro j u hj
  have hjl : j < l.length * 3 := by rw [← length_valCells]; exact (List.getElem?_eq_some_iff.1 hj).1
  have hd : j / 3 < l.length := by omega
  have hq : j = j / 3 * 3 ∨ j = j / 3 * 3 + 1 ∨ j = j / 3 * 3 + 2 := by omega
  obtain ⟨x, hx⟩ : ∃ x, l[j / 3]? = some x := ⟨_, List.getElem?_eq_getElem hd⟩
  obtain ⟨b, off, e, d0, d1, d2⟩ := hc (j / 3) x hx
  cases e
  obtain ⟨e0, e1, e2⟩ := valCells_get l (j / 3) x hx
  generalize j / 3 = q at *
  have : (⟨b, off, none⟩ : Addr).add j = ⟨b, off + j, none⟩ := by
    unfold Addr.add
    split
    · rename_i h; subst h; rfl
    · rfl
  rw [this]
  rcases hq with h | h | h
  · rw [h] at hj; rw [e0] at hj; cases hj; rw [h]; exact d0
  · rw [h] at hj; rw [e1] at hj; cases hj; rw [h]; exact d1
  · rw [h] at hj; rw [e2] at hj; cases hj; rw [h]; exact d2
theorem valCells_one (l : List V3) : ∀ u ∈ valCells l, u.oneCell' = true := by
  intro u hu
  simp only [valCells, List.mem_flatMap, cellsV, List.mem_cons, List.not_mem_nil, or_false] at hu
  obtain ⟨x, _, rfl | rfl | rfl⟩ := hu <;> rfl
theorem wpList_appendV {ops : Array Oper} {rest : List Oper} {o : Oper} {a : Act} {w : World} {Q : Exit → Act → World → Prop} (hgd : o.guard = none) (s x : Operand)
    (ho : o.op = .call { callee := .builtin .append, args := #[s, x], argTypes := #[24, 24] }) (B : Nat) (v : Value) (l : List V3) (hs : a.eval s = v) (hown : OwnVals w B v l)
    (sv : Value) (l2 : List V3) (hx : a.eval x = sv) (hsv : ValsAt w sv l2) (hnil : ∀ c, sv = .slice none 0 c → c = 0) (hlen : l.length + l2.length ≤ 1048576) (hB : B ≤ w.heap.size)
    (h : ∀ v' w', OwnVals w' B v' (l ++ l2) → w.grownBy w' v.ownBlock → Next w v.ownBlock v'.ownBlock → wpList Try.prog ops Q rest (a.put o.dst v') w') : wpList Try.prog ops Q (o :: rest) a w := by
  obtain ⟨i0, hi, hz0, hz1, hz2⟩ := val_parts
  have hsv0 := hsv
  obtain ⟨sa, cap, rfl, hc⟩ := hsv
  cases sa with
  | none =>
    have h0 : l2 = [] := by
      cases l2 with
      | nil => rfl
      | cons y r => obtain ⟨b, off, e, _⟩ := hc 0 y rfl; cases e
    subst h0
    have := hnil cap rfl
    subst this
    refine wpList_append_own_none hgd s x 24 ho B 30 i0 3 Try.underlying24 hi v l.length _ hs hown hx ?_
    exact h v w (by rw [List.append_nil]; exact hown) ⟨rfl, rfl, rfl, Nat.le_refl _, fun _ _ _ => rfl⟩ (Next.refl _ _)
  | some ad =>
    obtain ⟨v', w', hr, h2, h3, h4⟩ := append_next (P := Try.prog) w B 24 o.type 30 i0 (.agg #[.int .i64 0, .int .i64 0, .int .u64 0]) 3 24 Try.underlying24 hi hz0 hz1 hz2 rfl (by decide) v l.length _ hown ad l2.length cap (valCells l2) (length_valCells l2) (vals_cells hsv0) (valCells_one l2) (by unfold maxLen; omega) (by omega) hB
    refine wpList_plain hgd fun _ hK => Lib.wp_append_run w s x 24 24 ho v _ hs hx v' w' hr (hK _ _ (h v' w' ?_ h3 h4))
    unfold OwnVals
    rw [List.length_append, valCells_append]
    exact h2
theorem own_grew {w w' : World} {B : Nat} {v : Value} {l : List V3} (h : OwnVals w B v l) (hg : Grew w w') : OwnVals w' B v l := Moved.owns (Moved.of_grew (S := fun _ => False) hg) h (fun _ _ h => h)
theorem vals_new (w : World) (x : V3) : ValsAt (w.alloc (.cells #[.int .i64 x.1, .int .i64 x.2.1, .int .u64 x.2.2] 30)) (.slice (some ⟨w.heap.size, 0, none⟩) 1 1) [x] := by
  have h := heap_alloc_new w (.cells #[.int .i64 x.1, .int .i64 x.2.1, .int .u64 x.2.2] 30)
  refine ⟨_, 1, rfl, fun i y hy => ?_⟩
  have hi : i = 0 := by have := (List.getElem?_eq_some_iff.1 hy).1; simp at this; omega
  subst hi
  simp at hy
  subst hy
  exact ⟨_, _, rfl, row_cell h 0 _ rfl, row_cell h 1 _ rfl, row_cell h 2 _ rfl⟩
theorem own_form {w : World} {B : Nat} {v : Value} {l : List V3} (h : OwnVals w B v l) : ∃ a c, v = .slice a l.length c ∧ (a = none → c = 0) := by
  rcases h.2 with ⟨rfl, hn⟩ | ⟨g, cap, cur, rfl, _, _, hn, _⟩
  · exact ⟨none, 0, by rw [hn], fun _ => rfl⟩
  · exact ⟨_, cap, rfl, fun h => by cases h⟩
theorem own_lt {w : World} {B : Nat} {v : Value} {l : List V3} (h : OwnVals w B v l) {ad : Addr} {n c : Nat} (e : v = .slice (some ad) n c) : ad.block < w.heap.size := by
  rcases h.2 with ⟨rfl, hn⟩ | ⟨g, cap, cur, rfl, _, hg, hn, _⟩
  · cases e
  · cases e; exact (Array.getElem?_eq_some_iff.1 hg).1
theorem own_ge {w : World} {B : Nat} {v : Value} {l : List V3} (h : OwnVals w B v l) {ad : Addr} {n c : Nat} (e : v = .slice (some ad) n c) : B ≤ ad.block := by
  rcases h.2 with ⟨rfl, hn⟩ | ⟨g, cap, cur, rfl, hb, hg, hn, _⟩
  · cases e
  · cases e; exact hb
theorem grew_own {w wr w' : World} {v : Value} {l : List V3} (h : OwnVals wr w.heap.size v l) (hg : Grew w wr) (hgr : wr.grownBy w' v.ownBlock) : Grew w w' := by
  have hgr2 : Moved (fun k => some k = v.ownBlock) wr w' := Moved.of_grown hgr
  refine ⟨hgr2.os.trans hg.os, hgr2.tape.trans hg.tape, hgr2.output.trans hg.output, Nat.le_trans hg.size hgr2.size, fun k hk => ?_⟩
  refine (hgr2.block k (Nat.lt_of_lt_of_le hk hg.size) fun e => ?_).trans (hg.block k hk)
  rcases h.2 with ⟨rfl, hn⟩ | ⟨g, cap, cur, rfl, hb, _, _⟩
  · cases e
  · have : k = g := by injection e
    omega
end Go.Proofs.Ytajpbclcfjljnaa

/-
  Package vec: Put, typed vectors with a length.
-/
namespace Go.Proofs.Ytajpbclcfjljnaa
open Go Go.ChangeShapes Go.WideShapes Go.ChangeAt Go.RowKit Go.Joins
open Go.Proofs.Ytajpbclcfjljnaa.Ft (V3 vV okV ValsAt inlineB legalB packF codeF typedF allF)
set_option linter.unusedVariables false
set_option linter.unusedSimpArgs false
theorem shaped_0 (elem kd : Int) (hkd : typedF elem 0 = (kd, true)) (hne : elem ≠ -1) (w : World) (n : Nat) (hn : n = w.heap.size) : Calls Try.prog 33 #[.int .i64 elem, .int .i64 0] w fun r w' => r = .returned (.tuple #[.agg #[.int .i64 kd, .bool true, fnv 59 #[.pointer (some ⟨n, 0, none⟩)], fnv 60 #[]], .int .i64 0]) ∧ Grew w w' ∧ w'.cell? ⟨n, 0, none⟩ = some (.int .i64 elem) := by
  subst hn
  refine (shaped_ty elem 0 (fun h => hne h.1) w).mono ?_
  rintro r w' ⟨rfl, hg, hc, _⟩
  refine ⟨?_, hg, hc⟩
  unfold shapeT
  rw [hkd]
  rfl
set_option maxRecDepth 100000 in
set_option maxHeartbeats 2000000 in
theorem put_ty0 (elem kd : Int) (hkd : typedF elem 0 = (kd, true)) (hne : elem ≠ -1) {B : Nat} {w : World} {p : Nat} {o : Option Nat} {most : Int} (s : St) (lv : Value) (l : List V3) (h : BufAt B w p o s.1 most s.2) (hB : B ≤ w.heap.size) (hl : (s.1.length : Int) ≤ most) (hm1 : most ≤ 1048576)
    (hv : ValsAt w lv l) (hlen : l.length ≤ 1048576) (hok : ∀ v ∈ l, okV v) (hap : ∀ ad n c, lv = .slice (some ad) n c → ad.block < w.heap.size ∧ ¬ Own2 p o ad.block) (hs : s.2 = 0) :
    Calls Try.prog 12 #[bptr p, .int .i64 elem, .int .i64 0, lv] w fun r w' => r = .returned (putV (putF most (takesE elem) true false kd 0 l s).1) ∧ TurnB B w w' p o most (putF most (takesE elem) true false kd 0 l s).2 := by
  have HB0 := Lib.hid h
  have HA := Lib.hid hap
  have HOK := Lib.hid hok
  have HV := Lib.hid hv
  obtain ⟨a, c, rfl, hcell⟩ := hv
  have HC := Lib.hid hcell
  have HP := Lib.hid (rfl : putF most (takesE elem) true false kd 0 l s = putF most (takesE elem) true false kd 0 l s)
  generalize hP : putF most (takesE elem) true false kd 0 l s = P
  have HPP := Lib.hid hP
  clear h hap hok hcell HP hP
  go_enter Try.func12, Try.ntmps12
  go_wp2_with fail
  refine (err_any (HB0.out.grew ((Grew.refl w).alloc _))).mono ?_
  rw [hs]
  rintro r w1 ⟨rfl, rfl⟩
  go_wp2_with fail
  refine (shaped_0 elem kd hkd hne _ (w.heap.size + 1) (by simp)).mono ?_
  rintro r w1 ⟨rfl, hg, hce⟩
  have HCE := Lib.hid hce
  clear hce hkd
  have hb : w1.heap[w.heap.size]? = some (.cells #[.int .i64 0, .int .i64 0, .int .u64 0] 30) := hg.heap (heap_alloc_new _ _)
  have HR := Lib.hid hb
  have HG : Hid (Grew w w1) := ((Grew.refl w).alloc _).trans hg
  have HSZ := Lib.hid hg.size
  clear hb hg
  go_wp2_with fail
  go_loopw [12, 13] (fun e i wr => ∃ k : Nat, k ≤ l.length ∧ i = .int .i64 k ∧ e = .int .i64 (eachL (takesE elem) 0 (l.take k)) ∧ Hid (Grew w wr ∧ wr.heap[w.heap.size]? = some (.cells #[.int .i64 0, .int .i64 0, .int .u64 0] 30) ∧ wr.cell? ⟨w1.heap.size, 0, none⟩ = some (.int .i64 kd) ∧ wr.cell? ⟨w1.heap.size, 1, none⟩ = some (.bool true) ∧ wr.cell? ⟨w1.heap.size, 2, none⟩ = some (fnv 59 #[.pointer (some ⟨w.heap.size + 1, 0, none⟩)]) ∧ wr.cell? ⟨w1.heap.size, 3, none⟩ = some (fnv 60 #[]) ∧ wr.cell? ⟨w.heap.size + 1, 0, none⟩ = some (.int .i64 elem))) (fun _ i _ => l.length - (intOf i).toNat)
  case atStart =>
    refine ⟨0, Nat.zero_le _, rfl, rfl, ?_⟩
    show _ ∧ _
    exact ⟨HG.out.alloc _, ((Grew.refl w1).alloc _).heap HR.out, by go_simp, by go_simp, by go_simp, by go_simp, ((Grew.refl w1).alloc _).cell HCE.out⟩
  case round =>
    obtain ⟨k, hk, rfl, rfl, HW⟩ := hrel
    by_cases hlt : k < l.length
    · by_cases he : eachL (takesE elem) 0 (l.take k) = 0
      · obtain ⟨bl, off, rfl, q0, q1, q2⟩ := HC.out k l[k] (List.getElem?_eq_getElem hlt)
        have HSN := Lib.hid (eachL_snoc (takesE elem) 0 l k hlt he)
        have d0 := HW.out.1.cell q0
        have d1 := HW.out.1.cell q1
        have d2 := HW.out.1.cell q2
        have g2 := HW.out.2.2.2.2.1
        rw [he]
        generalize l[k] = v at *
        obtain ⟨ty, wd, vn⟩ := v
        simp only at d0 d1 d2
        clear q0 q1 q2
        go_wp2_with fail
        refine wp_region_tables Grew [[], [0], [], [], [2, 3], [4], [1, 5], [6]] [[(54, 2), (55, 3), (56, 4), (57, 5), (58, 6), (12, 7)], [(52, 0), (54, 2), (55, 3), (56, 4), (57, 5), (12, 7)], [(52, 0), (53, 1), (55, 3), (57, 5), (58, 6), (12, 7)], [(52, 0), (53, 1), (54, 2), (57, 5), (58, 6), (12, 7)], [(52, 0), (53, 1), (54, 2), (55, 3), (58, 6), (12, 7)], [(52, 0), (53, 1), (54, 2), (55, 3), (56, 4), (12, 7)], [(52, 0), (53, 1), (54, 2), (55, 3), (56, 4), (57, 5)], [(52, 0), (53, 1), (54, 2), (55, 3), (56, 4), (57, 5), (58, 6)]] [(52, 0), (53, 1), (54, 2), (55, 3), (56, 4), (57, 5), (58, 6), (12, 7)]
          [Is (.pointer (some ⟨w1.heap.size, 2, none⟩)), Is (fnv 59 #[.pointer (some ⟨w.heap.size + 1, 0, none⟩)]), Is (.slice (some ⟨bl, off, none⟩) l.length c), Is (.int .i64 k), Is (.pointer (some ⟨bl, off + k * 3, none⟩)), Is (.agg #[.int .i64 ty, .int .i64 wd, .int .u64 vn]), Is (.int .i64 (takesE elem (ty, wd, vn))), Is (.int .i64 (takesE elem (ty, wd, vn)))]
          (by kernel_rfl) Grew.trans Grew.refl (Grew.refl _).drew (by kernel_rfl) ⟨is_st, is_st, is_st, is_st, is_st, is_st, is_st, is_st, trivial⟩ ⟨?_, ?_, ?_, ?_, ?_, ?_, ?_, ?_, trivial⟩ rfl ?_
        · intro y w2 hG hD K hK
          simp only [fillL, Act.put, List.setIfInBounds_toArray, List.set_cons_zero, List.set_cons_succ, List.getD_cons_zero, List.getD_cons_succ, Is] at hK ⊢
          refine ite_yes (by rfl) ?_
          go_simp
          exact hK _ _ _ rfl (Grew.refl _) rfl
        · intro y w2 hG hD K hK
          simp only [depsH, List.getD_cons_zero, List.getD_cons_succ, Is, and_true] at hD
          have h0 := hD
          clear hD
          have dg2 := hG.cell g2
          have dd0 := hG.cell d0
          have dd1 := hG.cell d1
          have dd2 := hG.cell d2
          simp only [fillL, Act.put, List.setIfInBounds_toArray, List.set_cons_zero, List.set_cons_succ, List.getD_cons_zero, List.getD_cons_succ, Is] at hK ⊢
          rw [h0] at hK ⊢
          clear h0
          refine ite_yes (by rfl) ?_
          go_simp
          exact hK _ _ _ rfl (Grew.refl _) rfl
        · intro y w2 hG hD K hK
          simp only [fillL, Act.put, List.setIfInBounds_toArray, List.set_cons_zero, List.set_cons_succ, List.getD_cons_zero, List.getD_cons_succ, Is] at hK ⊢
          refine ite_yes (by rfl) ?_
          go_simp
          exact hK _ _ _ rfl (Grew.refl _) rfl
        · intro y w2 hG hD K hK
          simp only [fillL, Act.put, List.setIfInBounds_toArray, List.set_cons_zero, List.set_cons_succ, List.getD_cons_zero, List.getD_cons_succ, Is] at hK ⊢
          refine ite_yes (by rfl) ?_
          go_simp
          exact hK _ _ _ rfl (Grew.refl _) rfl
        · intro y w2 hG hD K hK
          simp only [depsH, List.getD_cons_zero, List.getD_cons_succ, Is, and_true] at hD
          have h2 := hD.1
          have h3 := hD.2
          clear hD
          simp only [fillL, Act.put, List.setIfInBounds_toArray, List.set_cons_zero, List.set_cons_succ, List.getD_cons_zero, List.getD_cons_succ, Is] at hK ⊢
          rw [h2, h3] at hK ⊢
          clear h2 h3
          refine ite_yes (by rfl) ?_
          go_simp
          exact hK _ _ _ rfl (Grew.refl _) rfl
        · intro y w2 hG hD K hK
          simp only [depsH, List.getD_cons_zero, List.getD_cons_succ, Is, and_true] at hD
          have h4 := hD
          clear hD
          have dg2 := hG.cell g2
          have dd0 := hG.cell d0
          have dd1 := hG.cell d1
          have dd2 := hG.cell d2
          simp only [fillL, Act.put, List.setIfInBounds_toArray, List.set_cons_zero, List.set_cons_succ, List.getD_cons_zero, List.getD_cons_succ, Is] at hK ⊢
          rw [h4] at hK ⊢
          clear h4
          refine ite_yes (by rfl) ?_
          go_simp
          exact hK _ _ _ rfl (Grew.refl _) rfl
        · intro y w2 hG hD K hK
          simp only [depsH, List.getD_cons_zero, List.getD_cons_succ, Is, and_true] at hD
          have h1 := hD.1
          have h5 := hD.2
          clear hD
          simp only [fillL, Act.put, List.setIfInBounds_toArray, List.set_cons_zero, List.set_cons_succ, List.getD_cons_zero, List.getD_cons_succ, Is] at hK ⊢
          rw [h1, h5] at hK ⊢
          clear h1 h5
          refine ite_yes (by rfl) ?_
          go_simp
          refine (takes_any elem (ty, wd, vn) _ _ (hG.cell HW.out.2.2.2.2.2.2)).mono ?_
          rintro r w3 ⟨rfl, hg⟩
          exact hK _ _ _ rfl hg rfl
        · intro y w2 hG hD K hK
          simp only [depsH, List.getD_cons_zero, List.getD_cons_succ, Is, and_true] at hD
          have h6 := hD
          clear hD
          simp only [fillL, Act.put, List.setIfInBounds_toArray, List.set_cons_zero, List.set_cons_succ, List.getD_cons_zero, List.getD_cons_succ, Is] at hK ⊢
          rw [h6] at hK ⊢
          clear h6
          refine ite_yes (by rfl) ?_
          go_simp
          exact hK _ _ _ rfl (Grew.refl _) rfl
        · intro y w2 hG hF
          simp only [factsH, Is, and_true, Nat.reduceAdd] at hF
          have h0 := hF.1
          have h1 := hF.2.1
          have h2 := hF.2.2.1
          have h3 := hF.2.2.2.1
          have h4 := hF.2.2.2.2.1
          have h5 := hF.2.2.2.2.2.1
          have h6 := hF.2.2.2.2.2.2.1
          have h7 := hF.2.2.2.2.2.2.2
          clear hF
          simp only [fillL, Act.put, List.setIfInBounds_toArray, List.set_cons_zero, List.set_cons_succ, List.getD_cons_zero, List.getD_cons_succ, Is]
          rw [h0, h1, h2, h3, h4, h5, h6, h7]
          clear h0 h1 h2 h3 h4 h5 h6 h7
          have HG2 := Lib.hid (HW.out.1.trans hG)
          have HGG := Lib.hid hG
          clear hG
          go_wp2
          go_roundw
          case rel =>
            have hw := HW.out
            have hgg := HGG.out
            exact ⟨k + 1, by omega, by go_num, by rw [HSN.out], HG2.out, hgg.heap hw.2.1, hgg.cell hw.2.2.1, hgg.cell hw.2.2.2.1, hgg.cell hw.2.2.2.2.1, hgg.cell hw.2.2.2.2.2.1, hgg.cell hw.2.2.2.2.2.2⟩
          case measure => simp [intOf]; omega
      · have hF : putF most (takesE elem) true false kd 0 l s = (((0, 0, 0), eachL (takesE elem) 0 (l.take k)), s) := by
          unfold putF
          rw [eachL_drop (takesE elem) 0 l k he, if_pos he]
        have HF := Lib.hid hF
        clear hF
        generalize eachL (takesE elem) 0 (l.take k) = e at *
        obtain ⟨hgw, hrow, _⟩ := HW.out
        have f0 := row_frozen hrow 0
        have f1 := row_frozen hrow 1
        have f2 := row_frozen hrow 2
        have c0 := row_cell hrow 0 _ rfl
        have c1 := row_cell hrow 1 _ rfl
        have c2 := row_cell hrow 2 _ rfl
        have HGW := Lib.hid hgw
        clear hrow hgw
        go_wp2
        refine bodyPost_ret (v := putV ((0, 0, 0), e)) ?_ rfl ⟨?_, ?_⟩
        · simp [results, Try.results12, go_sem, c0, c1, c2, putV, vV]
        · rw [← HPP.out, HF.out]
        · rw [← HPP.out, HF.out]
          exact (TurnB.refl HB0.out).grew ((((HGW.out).setCell (Nat.le_refl _) _).setCell (Nat.le_refl _) _).setCell (Nat.le_refl _) _)
    · have ek : k = l.length := by omega
      rw [ek, List.take_length]
      by_cases he : eachL (takesE elem) 0 l = 0
      · rw [he]
        clear hlt
        obtain ⟨hgw, hrow, g0, g1, g2, g3, _⟩ := HW.out
        have HGW := Lib.hid hgw
        have HROW := Lib.hid hrow
        clear hrow hgw HW
        go_wp2_with fail
        refine (len_any (HB0.out.grew HGW.out)).mono ?_
        rintro r w3 ⟨rfl, rfl⟩
        go_wp2_with fail
        refine (Ft.all_any l (0, 0, 0) _ 1 _ _ (by omega) HOK.out ok0 (HV.out.grew HGW.out)).mono ?_
        rintro r w3 ⟨rfl, hg⟩
        have HG3 := Lib.hid (HGW.out.trans hg)
        have HROW3 := Lib.hid (hg.heap HROW.out)
        replace g0 := hg.cell g0
        replace g1 := hg.cell g1
        replace g3 := hg.cell g3
        clear hg g2
        by_cases hx : allF l (0, 0, 0) s.1.length 1 = 0
        · have hF : putF most (takesE elem) true false kd 0 l s = (((0, 0, 0), 211), s) := by
            unfold putF
            rw [if_neg (by simpa using he)]
            simp [hx]
          have HF := Lib.hid hF
          clear hF
          rw [hx]
          have hrow := HROW3.out
          have f0 := row_frozen hrow 0
          have f1 := row_frozen hrow 1
          have f2 := row_frozen hrow 2
          have c0 := row_cell hrow 0 _ rfl
          have c1 := row_cell hrow 1 _ rfl
          have c2 := row_cell hrow 2 _ rfl
          clear hrow
          go_wp2
          refine bodyPost_ret (v := putV ((0, 0, 0), 211)) ?_ rfl ⟨?_, ?_⟩
          · simp [results, Try.results12, go_sem, c0, c1, c2, putV, vV]
          · rw [← HPP.out, HF.out]
          · rw [← HPP.out, HF.out]
            exact (TurnB.refl HB0.out).grew ((((HG3.out).setCell (Nat.le_refl _) _).setCell (Nat.le_refl _) _).setCell (Nat.le_refl _) _)
        · have HX := Lib.hid (allF_isW hx)
          have HXE := Lib.hid (rfl : allF l (0, 0, 0) s.1.length 1 = allF l (0, 0, 0) s.1.length 1)
          have HF : Hid (∀ x, allF l (0, 0, 0) s.1.length 1 = x → x ≠ 0 → putF most (takesE elem) true false kd 0 l s = if (elemsS most x l (numS most x l.length (alignS most x s))).2 ≠ 0 then (((0, 0, 0), (elemsS most x l (numS most x l.length (alignS most x s))).2), elemsS most x l (numS most x l.length (alignS most x s))) else (((kd, x, ((numS most x l.length (alignS most x s)).1.length : Int)), 0), elemsS most x l (numS most x l.length (alignS most x s)))) := by
            show ∀ x, _ = x → _
            intro x hx hx0
            unfold putF
            rw [if_neg (by simpa using he)]
            simp only [if_true, if_false, Bool.false_eq_true, if_neg]
            rw [hx, if_neg hx0]
          replace HF := Lib.hid (HF.out _ rfl hx)
          have M3 : Mid B w p o most (.slice a l.length c) l w.heap.size w1.heap.size kd true (fnv 60 #[]) s o w3 := by
            have hs3 := HG3.out.size
            have hlt1 := lt_of_cell g0
            have hb0 := HB0.out.lt
            have hs1 := HG.out.size
            refine ⟨HB0.out.grew HG3.out, Next.refl _ _, Moved.of_grew HG3.out, ?_, HV.out.grew HG3.out, HROW3.out, g0, g1, g3⟩
            rintro b (rfl | rfl | ⟨ad, n, c', e, rfl⟩)
            · exact ⟨by simp at hlt1; omega, fun h => by have := hb0 _ h; omega⟩
            · exact ⟨by simpa using hlt1, fun h => by have := hb0 _ h; omega⟩
            · have := HA.out ad n c' e
              exact ⟨by omega, this.2⟩
          have HM3 := Lib.hid M3
          have HB3 : B ≤ w3.heap.size := Nat.le_trans hB HG3.out.size
          clear M3 HXE g0 g1 g3 HROW3 HROW HG3 HGW
          generalize allF l (0, 0, 0) s.1.length 1 = x at *
          go_wp2_with fail
          refine (align_any s x HM3.out.1 HB3 hl hm1).mono ?_
          rintro r w4 ⟨rfl, ht⟩
          have HB4 : B ≤ w4.heap.size := by obtain ⟨_, _, _, m⟩ := ht; exact Nat.le_trans HB3 m.size
          obtain ⟨o4, m4⟩ := HM3.out.step ht
          have g1 := m4.2.2.2.2.2.2.2.1
          have HM4 := Lib.hid m4
          clear ht m4
          go_wp2_with fail
          refine (num_any (alignS most x s) x (l.length : Int) HM4.out.1 HB4 (alignS_le hl) hm1 (by omega) (by omega)).mono ?_
          rintro r w5 ⟨rfl, ht⟩
          have HB5 : B ≤ w5.heap.size := by obtain ⟨_, _, _, m⟩ := ht; exact Nat.le_trans HB4 m.size
          obtain ⟨o5, m5⟩ := HM4.out.step ht
          have HM5 := Lib.hid m5
          clear ht m5 g1
          go_wp2_with fail
          refine (len_any HM5.out.1).mono ?_
          rintro r w6 ⟨rfl, rfl⟩
          go_wp2_with fail
          refine (elements_any (numS most x l.length (alignS most x s)) x _ l HX.out HM5.out.1 HB5 (numS_le (alignS_le hl)) hm1 HM5.out.2.2.2.2.1 hlen HOK.out (fun ad n c' e => (HM5.out.2.2.2.1 _ (.inr (.inr ⟨ad, n, c', e, rfl⟩))).2)).mono ?_
          rintro r w6 ⟨rfl, ht⟩
          have HB6 : B ≤ w6.heap.size := by obtain ⟨_, _, _, m⟩ := ht; exact Nat.le_trans HB5 m.size
          obtain ⟨o6, m6⟩ := HM5.out.step ht
          have g3 := m6.2.2.2.2.2.2.2.2
          have HM6 := Lib.hid m6
          clear ht m6
          go_wp2_with fail
          refine (noTags_any _ _ _ _).mono ?_
          rintro r w7 ⟨rfl, hg⟩
          have ht := (TurnB.refl (o := o6) HM6.out.1).grew hg
          obtain ⟨o7, m7⟩ := HM6.out.step ht
          have g0 := m7.2.2.2.2.2.2.1
          have hrow := m7.2.2.2.2.2.1
          have HM7 := Lib.hid m7
          clear ht m7 g3
          go_wp2_with fail
          refine (err_any HM7.out.1).mono ?_
          rintro r w8 ⟨rfl, rfl⟩
          have hn2 := numS_le (x := x) (u := (l.length : Int)) (alignS_le (x := x) hl)
          by_cases hz : (elemsS most x l (numS most x l.length (alignS most x s))).2 = 0
          · have HF2 : Hid (putF most (takesE elem) true false kd 0 l s = (((kd, x, ((numS most x l.length (alignS most x s)).1.length : Int)), 0), (elemsS most x l (numS most x l.length (alignS most x s))))) := HF.out.trans (if_neg (by simpa using hz))
            rw [hz]
            clear HF hz HM3 HM4 HM5 HM6
            generalize (elemsS most x l (numS most x l.length (alignS most x s))) = sf at *
            generalize numS most x l.length (alignS most x s) = s2 at *
            have f0 := row_frozen hrow 0
            have f1 := row_frozen hrow 1
            have f2 := row_frozen hrow 2
            have c0 := row_cell hrow 0 _ rfl
            have c1 := row_cell hrow 1 _ rfl
            have c2 := row_cell hrow 2 _ rfl
            clear hrow
            go_wp2
            refine bodyPost_ret (v := putV ((kd, x, (s2.1.length : Int)), 0)) ?_ rfl ⟨?_, ?_⟩
            · simp [results, Try.results12, go_sem, c0, c1, c2, putV, vV]
            · rw [← HPP.out, HF2.out]
            · rw [← HPP.out, HF2.out]
              exact HM7.out.turnSet (Nat.le_refl _) _ _ _
          · have HF2 : Hid (putF most (takesE elem) true false kd 0 l s = (((0, 0, 0), (elemsS most x l (numS most x l.length (alignS most x s))).2), (elemsS most x l (numS most x l.length (alignS most x s))))) := HF.out.trans (if_pos (by simpa using hz))
            clear HF HM3 HM4 HM5 HM6
            generalize (elemsS most x l (numS most x l.length (alignS most x s))) = sf at *
            have f0 := row_frozen hrow 0
            have f1 := row_frozen hrow 1
            have f2 := row_frozen hrow 2
            have c0 := row_cell hrow 0 _ rfl
            have c1 := row_cell hrow 1 _ rfl
            have c2 := row_cell hrow 2 _ rfl
            clear hrow
            go_wp2
            refine bodyPost_ret (v := putV ((0, 0, 0), sf.2)) ?_ rfl ⟨?_, ?_⟩
            · simp [results, Try.results12, go_sem, c0, c1, c2, putV, vV]
            · rw [← HPP.out, HF2.out]
            · rw [← HPP.out, HF2.out]
              exact HM7.out.turnSet (Nat.le_refl _) _ _ _
      · have hF : putF most (takesE elem) true false kd 0 l s = (((0, 0, 0), eachL (takesE elem) 0 l), s) := by
          unfold putF
          rw [if_pos he]
        have HF := Lib.hid hF
        clear hF
        generalize eachL (takesE elem) 0 l = e at *
        obtain ⟨hgw, hrow, _⟩ := HW.out
        have f0 := row_frozen hrow 0
        have f1 := row_frozen hrow 1
        have f2 := row_frozen hrow 2
        have c0 := row_cell hrow 0 _ rfl
        have c1 := row_cell hrow 1 _ rfl
        have c2 := row_cell hrow 2 _ rfl
        have HGW := Lib.hid hgw
        clear hrow hgw
        go_wp2
        refine bodyPost_ret (v := putV ((0, 0, 0), e)) ?_ rfl ⟨?_, ?_⟩
        · simp [results, Try.results12, go_sem, c0, c1, c2, putV, vV]
        · rw [← HPP.out, HF.out]
        · rw [← HPP.out, HF.out]
          exact (TurnB.refl HB0.out).grew ((((HGW.out).setCell (Nat.le_refl _) _).setCell (Nat.le_refl _) _).setCell (Nat.le_refl _) _)
end Go.Proofs.Ytajpbclcfjljnaa

/-
  Package vec: Put's ways out ahead of the values.
-/
namespace Go.Proofs.Ytajpbclcfjljnaa
open Go Go.ChangeShapes Go.WideShapes Go.ChangeAt Go.RowKit Go.Joins
open Go.Proofs.Ytajpbclcfjljnaa.Ft (V3 vV okV ValsAt inlineB legalB packF codeF typedF allF)
set_option linter.unusedVariables false
set_option linter.unusedSimpArgs false
set_option maxHeartbeats 1000000 in
theorem put_err (elem many : Int) {B : Nat} {w : World} {p : Nat} {o : Option Nat} {most : Int} (s : St) (lv : Value) (l : List V3) (h : BufAt B w p o s.1 most s.2) (hB : B ≤ w.heap.size) (hv : ValsAt w lv l) (hlen : l.length ≤ 1048576) (hs : s.2 ≠ 0) :
    Calls Try.prog 12 #[bptr p, .int .i64 elem, .int .i64 many, lv] w fun r w' => r = .returned (putV ((0, 0, 0), s.2)) ∧ TurnB B w w' p o most s := by
  have HB0 := Lib.hid h
  obtain ⟨a, c, rfl, hcell⟩ := hv
  clear h hcell
  go_enter Try.func12, Try.ntmps12
  go_wp2_with fail
  refine (err_any (HB0.out.grew ((Grew.refl w).alloc _))).mono ?_
  obtain ⟨e, he⟩ : ∃ e, e = s.2 := ⟨_, rfl⟩
  rw [← he] at hs ⊢
  rintro r w1 ⟨rfl, rfl⟩
  have HG : Hid (Grew w (w.alloc (.cells #[.int .i64 0, .int .i64 0, .int .u64 0] 30))) := (Grew.refl w).alloc _
  go_wp2
  refine bodyPost_ret (v := putV ((0, 0, 0), e)) ?_ rfl ⟨by rw [he], ?_⟩
  · simp [results, Try.results12, go_sem, putV, vV, he]
  · exact (TurnB.refl HB0.out).grew HG.out
theorem shaped_x (elem many : Int) (hkd : (typedF elem many).2 = false) (hne : ¬ (elem = -1 ∧ many = 0)) (w : World) : Calls Try.prog 33 #[.int .i64 elem, .int .i64 many] w fun r w' => r = .returned (.tuple #[.agg #[.int .i64 0, .bool false, .nilFunc, .nilFunc], .int .i64 20]) ∧ Grew w w' := by
  refine (shaped_ty elem many hne w).mono ?_
  rintro r w' ⟨rfl, hg, _⟩
  refine ⟨?_, hg⟩
  unfold shapeT
  rw [hkd]
  rfl
theorem shaped_g (elem many kd : Int) (hkd : typedF elem many = (kd, true)) (hm : 0 < many) (w : World) : Calls Try.prog 33 #[.int .i64 elem, .int .i64 many] w fun r w' => (∃ (a : Addr) (b : Bool) (c : Int), r = .returned (.tuple #[.agg #[.int .i64 kd, .bool b, fnv 59 #[.pointer (some a)], fnv 60 #[]], .int .i64 0])) ∧ Grew w w' := by
  refine (shaped_ty elem many (fun h => by omega) w).mono ?_
  rintro r w' ⟨rfl, hg, _⟩
  refine ⟨⟨⟨w.heap.size, 0, none⟩, many == 0, 0, ?_⟩, hg⟩
  unfold shapeT
  rw [hkd, if_pos rfl]
set_option maxHeartbeats 1000000 in
theorem put_no (elem many : Int) (hkd : (typedF elem many).2 = false) (hne : ¬ (elem = -1 ∧ many = 0)) {B : Nat} {w : World} {p : Nat} {o : Option Nat} {most : Int} (s : St) (lv : Value) (l : List V3) (h : BufAt B w p o s.1 most s.2) (hB : B ≤ w.heap.size) (hv : ValsAt w lv l) (hlen : l.length ≤ 1048576) (hs : s.2 = 0) :
    Calls Try.prog 12 #[bptr p, .int .i64 elem, .int .i64 many, lv] w fun r w' => r = .returned (putV ((0, 0, 0), 20)) ∧ TurnB B w w' p o most s := by
  have HB0 := Lib.hid h
  obtain ⟨a, c, rfl, hcell⟩ := hv
  clear h hcell
  go_enter Try.func12, Try.ntmps12
  go_wp2_with fail
  refine (err_any (HB0.out.grew ((Grew.refl w).alloc _))).mono ?_
  rw [hs]
  rintro r w1 ⟨rfl, rfl⟩
  go_wp2_with fail
  refine (shaped_x elem many hkd hne _).mono ?_
  clear hkd hne
  rintro r w1 ⟨rfl, hg⟩
  have hb : w1.heap[w.heap.size]? = some (.cells #[.int .i64 0, .int .i64 0, .int .u64 0] 30) := hg.heap (heap_alloc_new _ _)
  have HR := Lib.hid hb
  have HG0 : Hid (Grew w w1) := ((Grew.refl w).alloc _).trans hg
  clear hb hg
  go_wp2_with fail
  go_loopw [12, 13] (fun e i wr => i = .int .i64 0 ∧ e = .int .i64 20 ∧ Hid (Grew w wr ∧ wr.heap[w.heap.size]? = some (.cells #[.int .i64 0, .int .i64 0, .int .u64 0] 30))) (fun _ _ _ => 0)
  case atStart =>
    refine ⟨rfl, rfl, ?_⟩
    show _ ∧ _
    exact ⟨HG0.out.alloc _, ((Grew.refl w1).alloc _).heap HR.out⟩
  case round =>
    obtain ⟨rfl, rfl, HW⟩ := hrel
    obtain ⟨hgw, hrow⟩ := HW.out
    have HG := Lib.hid hgw
    clear hgw HW
    have f0 := row_frozen hrow 0
    have f1 := row_frozen hrow 1
    have f2 := row_frozen hrow 2
    have c0 := row_cell hrow 0 _ rfl
    have c1 := row_cell hrow 1 _ rfl
    have c2 := row_cell hrow 2 _ rfl
    clear hrow
    go_wp2
    all_goals
      refine bodyPost_ret (v := putV ((0, 0, 0), 20)) ?_ rfl ⟨rfl, ?_⟩
      · simp [results, Try.results12, go_sem, c0, c1, c2, putV, vV]
      · exact (TurnB.refl HB0.out).grew ((((HG.out).setCell (Nat.le_refl _) _).setCell (Nat.le_refl _) _).setCell (Nat.le_refl _) _)
set_option maxHeartbeats 1000000 in
theorem put_bad (elem many kd : Int) (hkd : typedF elem many = (kd, true)) (hm : 0 < many) {B : Nat} {w : World} {p : Nat} {o : Option Nat} {most : Int} (s : St) (lv : Value) (l : List V3) (h : BufAt B w p o s.1 most s.2) (hB : B ≤ w.heap.size) (hv : ValsAt w lv l) (hlen : l.length ≤ 1048576) (hlm : (l.length : Int) ≠ many) (hs : s.2 = 0) :
    Calls Try.prog 12 #[bptr p, .int .i64 elem, .int .i64 many, lv] w fun r w' => r = .returned (putV ((0, 0, 0), 2)) ∧ TurnB B w w' p o most s := by
  have HB0 := Lib.hid h
  obtain ⟨a, c, rfl, hcell⟩ := hv
  clear h hcell
  go_enter Try.func12, Try.ntmps12
  go_wp2_with fail
  refine (err_any (HB0.out.grew ((Grew.refl w).alloc _))).mono ?_
  rw [hs]
  rintro r w1 ⟨rfl, rfl⟩
  go_wp2_with fail
  refine (shaped_g elem many kd hkd hm _).mono ?_
  clear hkd
  rintro r w1 ⟨⟨x1, x2, x3, rfl⟩, hg⟩
  have hb : w1.heap[w.heap.size]? = some (.cells #[.int .i64 0, .int .i64 0, .int .u64 0] 30) := hg.heap (heap_alloc_new _ _)
  have HR := Lib.hid hb
  have HG0 : Hid (Grew w w1) := ((Grew.refl w).alloc _).trans hg
  clear hb hg
  go_wp2_with fail
  go_loopw [12, 13] (fun e i wr => i = .int .i64 0 ∧ e = .int .i64 2 ∧ Hid (Grew w wr ∧ wr.heap[w.heap.size]? = some (.cells #[.int .i64 0, .int .i64 0, .int .u64 0] 30))) (fun _ _ _ => 0)
  case atStart =>
    refine ⟨rfl, rfl, ?_⟩
    show _ ∧ _
    exact ⟨HG0.out.alloc _, ((Grew.refl w1).alloc _).heap HR.out⟩
  case round =>
    obtain ⟨rfl, rfl, HW⟩ := hrel
    obtain ⟨hgw, hrow⟩ := HW.out
    have HG := Lib.hid hgw
    clear hgw HW
    have f0 := row_frozen hrow 0
    have f1 := row_frozen hrow 1
    have f2 := row_frozen hrow 2
    have c0 := row_cell hrow 0 _ rfl
    have c1 := row_cell hrow 1 _ rfl
    have c2 := row_cell hrow 2 _ rfl
    clear hrow
    go_wp2
    all_goals
      refine bodyPost_ret (v := putV ((0, 0, 0), 2)) ?_ rfl ⟨rfl, ?_⟩
      · simp [results, Try.results12, go_sem, c0, c1, c2, putV, vV]
      · exact (TurnB.refl HB0.out).grew ((((HG.out).setCell (Nat.le_refl _) _).setCell (Nat.le_refl _) _).setCell (Nat.le_refl _) _)
end Go.Proofs.Ytajpbclcfjljnaa

/-
  Package vec: Put, fixed vectors.
-/
namespace Go.Proofs.Ytajpbclcfjljnaa
open Go Go.ChangeShapes Go.WideShapes Go.ChangeAt Go.RowKit Go.Joins
open Go.Proofs.Ytajpbclcfjljnaa.Ft (V3 vV okV ValsAt inlineB legalB packF codeF typedF allF)
set_option linter.unusedVariables false
set_option linter.unusedSimpArgs false
theorem shaped_f (elem kd : Int) (m : Nat) (hkd : typedF elem (m : Int) = (kd, true)) (hpos : 0 < m) (w : World) (n : Nat) (hn : n = w.heap.size) : Calls Try.prog 33 #[.int .i64 elem, .int .i64 (m : Int)] w fun r w' => r = .returned (.tuple #[.agg #[.int .i64 kd, .bool false, fnv 59 #[.pointer (some ⟨n, 0, none⟩)], fnv 60 #[]], .int .i64 0]) ∧ Grew w w' ∧ w'.cell? ⟨n, 0, none⟩ = some (.int .i64 elem) := by
  subst hn
  refine (shaped_ty elem m (fun h => by omega) w).mono ?_
  rintro r w' ⟨rfl, hg, hc, _⟩
  refine ⟨?_, hg, hc⟩
  unfold shapeT
  rw [hkd, if_pos rfl, show ((m : Int) == 0) = false by simp; omega]
set_option maxRecDepth 100000 in
set_option maxHeartbeats 2000000 in
theorem put_fix (elem kd : Int) {B : Nat} {w : World} {p : Nat} {o : Option Nat} {most : Int} (s : St) (lv : Value) (l : List V3) (hkd : typedF elem (l.length : Int) = (kd, true)) (hpos : 0 < l.length) (h : BufAt B w p o s.1 most s.2) (hB : B ≤ w.heap.size) (hl : (s.1.length : Int) ≤ most) (hm1 : most ≤ 1048576)
    (hv : ValsAt w lv l) (hlen : l.length ≤ 1048576) (hok : ∀ v ∈ l, okV v) (hap : ∀ ad n c, lv = .slice (some ad) n c → ad.block < w.heap.size ∧ ¬ Own2 p o ad.block) (hs : s.2 = 0) :
    Calls Try.prog 12 #[bptr p, .int .i64 elem, .int .i64 (l.length : Int), lv] w fun r w' => r = .returned (putV (putF most (takesE elem) false false kd 0 l s).1) ∧ TurnB B w w' p o most (putF most (takesE elem) false false kd 0 l s).2 := by
  have HB0 := Lib.hid h
  have HA := Lib.hid hap
  have HOK := Lib.hid hok
  have HV := Lib.hid hv
  obtain ⟨a, c, rfl, hcell⟩ := hv
  have HC := Lib.hid hcell
  have HP := Lib.hid (rfl : putF most (takesE elem) false false kd 0 l s = putF most (takesE elem) false false kd 0 l s)
  generalize hP : putF most (takesE elem) false false kd 0 l s = P
  have HPP := Lib.hid hP
  clear h hap hok hcell HP hP
  go_enter Try.func12, Try.ntmps12
  go_wp2_with fail
  refine (err_any (HB0.out.grew ((Grew.refl w).alloc _))).mono ?_
  rw [hs]
  rintro r w1 ⟨rfl, rfl⟩
  go_wp2_with fail
  refine (shaped_f elem kd l.length hkd hpos _ (w.heap.size + 1) (by simp)).mono ?_
  rintro r w1 ⟨rfl, hg, hce⟩
  have HCE := Lib.hid hce
  clear hce hkd
  have hb : w1.heap[w.heap.size]? = some (.cells #[.int .i64 0, .int .i64 0, .int .u64 0] 30) := hg.heap (heap_alloc_new _ _)
  have HR := Lib.hid hb
  have HG : Hid (Grew w w1) := ((Grew.refl w).alloc _).trans hg
  have HSZ := Lib.hid hg.size
  clear hb hg
  go_wp2_with fail
  go_loopw [12, 13] (fun e i wr => ∃ k : Nat, k ≤ l.length ∧ i = .int .i64 k ∧ e = .int .i64 (eachL (takesE elem) 0 (l.take k)) ∧ Hid (Grew w wr ∧ wr.heap[w.heap.size]? = some (.cells #[.int .i64 0, .int .i64 0, .int .u64 0] 30) ∧ wr.cell? ⟨w1.heap.size, 0, none⟩ = some (.int .i64 kd) ∧ wr.cell? ⟨w1.heap.size, 1, none⟩ = some (.bool false) ∧ wr.cell? ⟨w1.heap.size, 2, none⟩ = some (fnv 59 #[.pointer (some ⟨w.heap.size + 1, 0, none⟩)]) ∧ wr.cell? ⟨w1.heap.size, 3, none⟩ = some (fnv 60 #[]) ∧ wr.cell? ⟨w.heap.size + 1, 0, none⟩ = some (.int .i64 elem))) (fun _ i _ => l.length - (intOf i).toNat)
  case atStart =>
    refine ⟨0, Nat.zero_le _, rfl, rfl, ?_⟩
    show _ ∧ _
    exact ⟨HG.out.alloc _, ((Grew.refl w1).alloc _).heap HR.out, by go_simp, by go_simp, by go_simp, by go_simp, ((Grew.refl w1).alloc _).cell HCE.out⟩
  case round =>
    obtain ⟨k, hk, rfl, rfl, HW⟩ := hrel
    by_cases hlt : k < l.length
    · by_cases he : eachL (takesE elem) 0 (l.take k) = 0
      · obtain ⟨bl, off, rfl, q0, q1, q2⟩ := HC.out k l[k] (List.getElem?_eq_getElem hlt)
        have HSN := Lib.hid (eachL_snoc (takesE elem) 0 l k hlt he)
        have d0 := HW.out.1.cell q0
        have d1 := HW.out.1.cell q1
        have d2 := HW.out.1.cell q2
        have g2 := HW.out.2.2.2.2.1
        rw [he]
        generalize l[k] = v at *
        obtain ⟨ty, wd, vn⟩ := v
        simp only at d0 d1 d2
        clear q0 q1 q2
        go_wp2_with fail
        refine wp_region_tables Grew [[], [0], [], [], [2, 3], [4], [1, 5], [6]] [[(54, 2), (55, 3), (56, 4), (57, 5), (58, 6), (12, 7)], [(52, 0), (54, 2), (55, 3), (56, 4), (57, 5), (12, 7)], [(52, 0), (53, 1), (55, 3), (57, 5), (58, 6), (12, 7)], [(52, 0), (53, 1), (54, 2), (57, 5), (58, 6), (12, 7)], [(52, 0), (53, 1), (54, 2), (55, 3), (58, 6), (12, 7)], [(52, 0), (53, 1), (54, 2), (55, 3), (56, 4), (12, 7)], [(52, 0), (53, 1), (54, 2), (55, 3), (56, 4), (57, 5)], [(52, 0), (53, 1), (54, 2), (55, 3), (56, 4), (57, 5), (58, 6)]] [(52, 0), (53, 1), (54, 2), (55, 3), (56, 4), (57, 5), (58, 6), (12, 7)]
          [Is (.pointer (some ⟨w1.heap.size, 2, none⟩)), Is (fnv 59 #[.pointer (some ⟨w.heap.size + 1, 0, none⟩)]), Is (.slice (some ⟨bl, off, none⟩) l.length c), Is (.int .i64 k), Is (.pointer (some ⟨bl, off + k * 3, none⟩)), Is (.agg #[.int .i64 ty, .int .i64 wd, .int .u64 vn]), Is (.int .i64 (takesE elem (ty, wd, vn))), Is (.int .i64 (takesE elem (ty, wd, vn)))]
          (by kernel_rfl) Grew.trans Grew.refl (Grew.refl _).drew (by kernel_rfl) ⟨is_st, is_st, is_st, is_st, is_st, is_st, is_st, is_st, trivial⟩ ⟨?_, ?_, ?_, ?_, ?_, ?_, ?_, ?_, trivial⟩ rfl ?_
        · intro y w2 hG hD K hK
          simp only [fillL, Act.put, List.setIfInBounds_toArray, List.set_cons_zero, List.set_cons_succ, List.getD_cons_zero, List.getD_cons_succ, Is] at hK ⊢
          refine ite_yes (by rfl) ?_
          go_simp
          exact hK _ _ _ rfl (Grew.refl _) rfl
        · intro y w2 hG hD K hK
          simp only [depsH, List.getD_cons_zero, List.getD_cons_succ, Is, and_true] at hD
          have h0 := hD
          clear hD
          have dg2 := hG.cell g2
          have dd0 := hG.cell d0
          have dd1 := hG.cell d1
          have dd2 := hG.cell d2
          simp only [fillL, Act.put, List.setIfInBounds_toArray, List.set_cons_zero, List.set_cons_succ, List.getD_cons_zero, List.getD_cons_succ, Is] at hK ⊢
          rw [h0] at hK ⊢
          clear h0
          refine ite_yes (by rfl) ?_
          go_simp
          exact hK _ _ _ rfl (Grew.refl _) rfl
        · intro y w2 hG hD K hK
          simp only [fillL, Act.put, List.setIfInBounds_toArray, List.set_cons_zero, List.set_cons_succ, List.getD_cons_zero, List.getD_cons_succ, Is] at hK ⊢
          refine ite_yes (by rfl) ?_
          go_simp
          exact hK _ _ _ rfl (Grew.refl _) rfl
        · intro y w2 hG hD K hK
          simp only [fillL, Act.put, List.setIfInBounds_toArray, List.set_cons_zero, List.set_cons_succ, List.getD_cons_zero, List.getD_cons_succ, Is] at hK ⊢
          refine ite_yes (by rfl) ?_
          go_simp
          exact hK _ _ _ rfl (Grew.refl _) rfl
        · intro y w2 hG hD K hK
          simp only [depsH, List.getD_cons_zero, List.getD_cons_succ, Is, and_true] at hD
          have h2 := hD.1
          have h3 := hD.2
          clear hD
          simp only [fillL, Act.put, List.setIfInBounds_toArray, List.set_cons_zero, List.set_cons_succ, List.getD_cons_zero, List.getD_cons_succ, Is] at hK ⊢
          rw [h2, h3] at hK ⊢
          clear h2 h3
          refine ite_yes (by rfl) ?_
          go_simp
          exact hK _ _ _ rfl (Grew.refl _) rfl
        · intro y w2 hG hD K hK
          simp only [depsH, List.getD_cons_zero, List.getD_cons_succ, Is, and_true] at hD
          have h4 := hD
          clear hD
          have dg2 := hG.cell g2
          have dd0 := hG.cell d0
          have dd1 := hG.cell d1
          have dd2 := hG.cell d2
          simp only [fillL, Act.put, List.setIfInBounds_toArray, List.set_cons_zero, List.set_cons_succ, List.getD_cons_zero, List.getD_cons_succ, Is] at hK ⊢
          rw [h4] at hK ⊢
          clear h4
          refine ite_yes (by rfl) ?_
          go_simp
          exact hK _ _ _ rfl (Grew.refl _) rfl
        · intro y w2 hG hD K hK
          simp only [depsH, List.getD_cons_zero, List.getD_cons_succ, Is, and_true] at hD
          have h1 := hD.1
          have h5 := hD.2
          clear hD
          simp only [fillL, Act.put, List.setIfInBounds_toArray, List.set_cons_zero, List.set_cons_succ, List.getD_cons_zero, List.getD_cons_succ, Is] at hK ⊢
          rw [h1, h5] at hK ⊢
          clear h1 h5
          refine ite_yes (by rfl) ?_
          go_simp
          refine (takes_any elem (ty, wd, vn) _ _ (hG.cell HW.out.2.2.2.2.2.2)).mono ?_
          rintro r w3 ⟨rfl, hg⟩
          exact hK _ _ _ rfl hg rfl
        · intro y w2 hG hD K hK
          simp only [depsH, List.getD_cons_zero, List.getD_cons_succ, Is, and_true] at hD
          have h6 := hD
          clear hD
          simp only [fillL, Act.put, List.setIfInBounds_toArray, List.set_cons_zero, List.set_cons_succ, List.getD_cons_zero, List.getD_cons_succ, Is] at hK ⊢
          rw [h6] at hK ⊢
          clear h6
          refine ite_yes (by rfl) ?_
          go_simp
          exact hK _ _ _ rfl (Grew.refl _) rfl
        · intro y w2 hG hF
          simp only [factsH, Is, and_true, Nat.reduceAdd] at hF
          have h0 := hF.1
          have h1 := hF.2.1
          have h2 := hF.2.2.1
          have h3 := hF.2.2.2.1
          have h4 := hF.2.2.2.2.1
          have h5 := hF.2.2.2.2.2.1
          have h6 := hF.2.2.2.2.2.2.1
          have h7 := hF.2.2.2.2.2.2.2
          clear hF
          simp only [fillL, Act.put, List.setIfInBounds_toArray, List.set_cons_zero, List.set_cons_succ, List.getD_cons_zero, List.getD_cons_succ, Is]
          rw [h0, h1, h2, h3, h4, h5, h6, h7]
          clear h0 h1 h2 h3 h4 h5 h6 h7
          have HG2 := Lib.hid (HW.out.1.trans hG)
          have HGG := Lib.hid hG
          clear hG
          go_wp2
          go_roundw
          case rel =>
            have hw := HW.out
            have hgg := HGG.out
            exact ⟨k + 1, by omega, by go_num, by rw [HSN.out], HG2.out, hgg.heap hw.2.1, hgg.cell hw.2.2.1, hgg.cell hw.2.2.2.1, hgg.cell hw.2.2.2.2.1, hgg.cell hw.2.2.2.2.2.1, hgg.cell hw.2.2.2.2.2.2⟩
          case measure => simp [intOf]; omega
      · have hF : putF most (takesE elem) false false kd 0 l s = (((0, 0, 0), eachL (takesE elem) 0 (l.take k)), s) := by
          unfold putF
          rw [eachL_drop (takesE elem) 0 l k he, if_pos he]
        have HF := Lib.hid hF
        clear hF
        generalize eachL (takesE elem) 0 (l.take k) = e at *
        obtain ⟨hgw, hrow, _⟩ := HW.out
        have f0 := row_frozen hrow 0
        have f1 := row_frozen hrow 1
        have f2 := row_frozen hrow 2
        have c0 := row_cell hrow 0 _ rfl
        have c1 := row_cell hrow 1 _ rfl
        have c2 := row_cell hrow 2 _ rfl
        have HGW := Lib.hid hgw
        clear hrow hgw
        go_wp2
        refine bodyPost_ret (v := putV ((0, 0, 0), e)) ?_ rfl ⟨?_, ?_⟩
        · simp [results, Try.results12, go_sem, c0, c1, c2, putV, vV]
        · rw [← HPP.out, HF.out]
        · rw [← HPP.out, HF.out]
          exact (TurnB.refl HB0.out).grew ((((HGW.out).setCell (Nat.le_refl _) _).setCell (Nat.le_refl _) _).setCell (Nat.le_refl _) _)
    · have ek : k = l.length := by omega
      rw [ek, List.take_length]
      by_cases he : eachL (takesE elem) 0 l = 0
      · rw [he]
        clear hlt
        obtain ⟨hgw, hrow, g0, g1, g2, g3, _⟩ := HW.out
        have HGW := Lib.hid hgw
        have HROW := Lib.hid hrow
        clear hrow hgw HW
        go_wp2_with fail
        refine (len_any (HB0.out.grew HGW.out)).mono ?_
        rintro r w3 ⟨rfl, rfl⟩
        go_wp2_with fail
        refine (Ft.all_any l (0, 0, 0) _ 0 _ _ (by omega) HOK.out ok0 (HV.out.grew HGW.out)).mono ?_
        rintro r w3 ⟨rfl, hg⟩
        have HG3 := Lib.hid (HGW.out.trans hg)
        have HROW3 := Lib.hid (hg.heap HROW.out)
        replace g0 := hg.cell g0
        replace g1 := hg.cell g1
        replace g3 := hg.cell g3
        clear hg g2
        by_cases hx : allF l (0, 0, 0) s.1.length 0 = 0
        · have hF : putF most (takesE elem) false false kd 0 l s = (((0, 0, 0), 211), s) := by
            unfold putF
            rw [if_neg (by simpa using he)]
            simp [hx]
          have HF := Lib.hid hF
          clear hF
          rw [hx]
          have hrow := HROW3.out
          have f0 := row_frozen hrow 0
          have f1 := row_frozen hrow 1
          have f2 := row_frozen hrow 2
          have c0 := row_cell hrow 0 _ rfl
          have c1 := row_cell hrow 1 _ rfl
          have c2 := row_cell hrow 2 _ rfl
          clear hrow
          go_wp2
          refine bodyPost_ret (v := putV ((0, 0, 0), 211)) ?_ rfl ⟨?_, ?_⟩
          · simp [results, Try.results12, go_sem, c0, c1, c2, putV, vV]
          · rw [← HPP.out, HF.out]
          · rw [← HPP.out, HF.out]
            exact (TurnB.refl HB0.out).grew ((((HG3.out).setCell (Nat.le_refl _) _).setCell (Nat.le_refl _) _).setCell (Nat.le_refl _) _)
        · have HX := Lib.hid (allF_isW hx)
          have HXE := Lib.hid (rfl : allF l (0, 0, 0) s.1.length 0 = allF l (0, 0, 0) s.1.length 0)
          have HF : Hid (∀ x, allF l (0, 0, 0) s.1.length 0 = x → x ≠ 0 → putF most (takesE elem) false false kd 0 l s = if (elemsS most x l (alignS most x s)).2 ≠ 0 then (((0, 0, 0), (elemsS most x l (alignS most x s)).2), elemsS most x l (alignS most x s)) else (((kd, x, ((alignS most x s).1.length : Int)), 0), elemsS most x l (alignS most x s))) := by
            show ∀ x, _ = x → _
            intro x hx hx0
            unfold putF
            rw [if_neg (by simpa using he)]
            simp only [if_true, if_false, Bool.false_eq_true, if_neg]
            rw [hx, if_neg hx0]
          replace HF := Lib.hid (HF.out _ rfl hx)
          have M3 : Mid B w p o most (.slice a l.length c) l w.heap.size w1.heap.size kd false (fnv 60 #[]) s o w3 := by
            have hs3 := HG3.out.size
            have hlt1 := lt_of_cell g0
            have hb0 := HB0.out.lt
            have hs1 := HG.out.size
            refine ⟨HB0.out.grew HG3.out, Next.refl _ _, Moved.of_grew HG3.out, ?_, HV.out.grew HG3.out, HROW3.out, g0, g1, g3⟩
            rintro b (rfl | rfl | ⟨ad, n, c', e, rfl⟩)
            · exact ⟨by simp at hlt1; omega, fun h => by have := hb0 _ h; omega⟩
            · exact ⟨by simpa using hlt1, fun h => by have := hb0 _ h; omega⟩
            · have := HA.out ad n c' e
              exact ⟨by omega, this.2⟩
          have HM3 := Lib.hid M3
          have HB3 : B ≤ w3.heap.size := Nat.le_trans hB HG3.out.size
          clear M3 HXE g0 g1 g3 HROW3 HROW HG3 HGW
          generalize allF l (0, 0, 0) s.1.length 0 = x at *
          go_wp2_with fail
          refine (align_any s x HM3.out.1 HB3 hl hm1).mono ?_
          rintro r w4 ⟨rfl, ht⟩
          have HB4 : B ≤ w4.heap.size := by obtain ⟨_, _, _, m⟩ := ht; exact Nat.le_trans HB3 m.size
          obtain ⟨o4, m4⟩ := HM3.out.step ht
          have g1 := m4.2.2.2.2.2.2.2.1
          have HM4 := Lib.hid m4
          clear ht m4
          go_wp2_with fail
          refine (len_any HM4.out.1).mono ?_
          rintro r w6 ⟨rfl, rfl⟩
          go_wp2_with fail
          refine (elements_any (alignS most x s) x _ l HX.out HM4.out.1 HB4 (alignS_le hl) hm1 HM4.out.2.2.2.2.1 hlen HOK.out (fun ad n c' e => (HM4.out.2.2.2.1 _ (.inr (.inr ⟨ad, n, c', e, rfl⟩))).2)).mono ?_
          rintro r w6 ⟨rfl, ht⟩
          have HB6 : B ≤ w6.heap.size := by obtain ⟨_, _, _, m⟩ := ht; exact Nat.le_trans HB4 m.size
          obtain ⟨o6, m6⟩ := HM4.out.step ht
          have g3 := m6.2.2.2.2.2.2.2.2
          have HM6 := Lib.hid m6
          clear ht m6
          go_wp2_with fail
          refine (noTags_any _ _ _ _).mono ?_
          rintro r w7 ⟨rfl, hg⟩
          have ht := (TurnB.refl (o := o6) HM6.out.1).grew hg
          obtain ⟨o7, m7⟩ := HM6.out.step ht
          have g0 := m7.2.2.2.2.2.2.1
          have hrow := m7.2.2.2.2.2.1
          have HM7 := Lib.hid m7
          clear ht m7 g3
          go_wp2_with fail
          refine (err_any HM7.out.1).mono ?_
          rintro r w8 ⟨rfl, rfl⟩
          have hn2 := alignS_le (x := x) hl
          by_cases hz : (elemsS most x l (alignS most x s)).2 = 0
          · have HF2 : Hid (putF most (takesE elem) false false kd 0 l s = (((kd, x, ((alignS most x s).1.length : Int)), 0), (elemsS most x l (alignS most x s)))) := HF.out.trans (if_neg (by simpa using hz))
            rw [hz]
            clear HF hz HM3 HM4 HM6
            generalize (elemsS most x l (alignS most x s)) = sf at *
            generalize alignS most x s = s2 at *
            have f0 := row_frozen hrow 0
            have f1 := row_frozen hrow 1
            have f2 := row_frozen hrow 2
            have c0 := row_cell hrow 0 _ rfl
            have c1 := row_cell hrow 1 _ rfl
            have c2 := row_cell hrow 2 _ rfl
            clear hrow
            go_wp2
            refine bodyPost_ret (v := putV ((kd, x, (s2.1.length : Int)), 0)) ?_ rfl ⟨?_, ?_⟩
            · simp [results, Try.results12, go_sem, c0, c1, c2, putV, vV]
            · rw [← HPP.out, HF2.out]
            · rw [← HPP.out, HF2.out]
              exact HM7.out.turnSet (Nat.le_refl _) _ _ _
          · have HF2 : Hid (putF most (takesE elem) false false kd 0 l s = (((0, 0, 0), (elemsS most x l (alignS most x s)).2), (elemsS most x l (alignS most x s)))) := HF.out.trans (if_pos (by simpa using hz))
            clear HF HM3 HM4 HM6
            generalize (elemsS most x l (alignS most x s)) = sf at *
            have f0 := row_frozen hrow 0
            have f1 := row_frozen hrow 1
            have f2 := row_frozen hrow 2
            have c0 := row_cell hrow 0 _ rfl
            have c1 := row_cell hrow 1 _ rfl
            have c2 := row_cell hrow 2 _ rfl
            clear hrow
            go_wp2
            refine bodyPost_ret (v := putV ((0, 0, 0), sf.2)) ?_ rfl ⟨?_, ?_⟩
            · simp [results, Try.results12, go_sem, c0, c1, c2, putV, vV]
            · rw [← HPP.out, HF2.out]
            · rw [← HPP.out, HF2.out]
              exact HM7.out.turnSet (Nat.le_refl _) _ _ _
      · have hF : putF most (takesE elem) false false kd 0 l s = (((0, 0, 0), eachL (takesE elem) 0 l), s) := by
          unfold putF
          rw [if_pos he]
        have HF := Lib.hid hF
        clear hF
        generalize eachL (takesE elem) 0 l = e at *
        obtain ⟨hgw, hrow, _⟩ := HW.out
        have f0 := row_frozen hrow 0
        have f1 := row_frozen hrow 1
        have f2 := row_frozen hrow 2
        have c0 := row_cell hrow 0 _ rfl
        have c1 := row_cell hrow 1 _ rfl
        have c2 := row_cell hrow 2 _ rfl
        have HGW := Lib.hid hgw
        clear hrow hgw
        go_wp2
        refine bodyPost_ret (v := putV ((0, 0, 0), e)) ?_ rfl ⟨?_, ?_⟩
        · simp [results, Try.results12, go_sem, c0, c1, c2, putV, vV]
        · rw [← HPP.out, HF.out]
        · rw [← HPP.out, HF.out]
          exact (TurnB.refl HB0.out).grew ((((HGW.out).setCell (Nat.le_refl _) _).setCell (Nat.le_refl _) _).setCell (Nat.le_refl _) _)
end Go.Proofs.Ytajpbclcfjljnaa

/-
  Vectors: the law's puts.
-/
namespace Go.Proofs.Ytajpbclcfjljnaa
open Go Go.ChangeShapes Go.WideShapes Go.ChangeAt Go.RowKit Go.Joins
open Go.Proofs.Ytajpbclcfjljnaa.Ft (V3 vV okV ValsAt inlineB legalB packF codeF typedF allF)
set_option linter.unusedVariables false
set_option linter.unusedSimpArgs false
def Puts (elem many : Int) (lv : Value) (l : List V3) (most : Int) (s : St) (q : V3 × Int) (s' : St) : Prop :=
  ∀ (B : Nat) (w : World) (p : Nat) (o : Option Nat), BufAt B w p o s.1 most s.2 → B ≤ w.heap.size → ValsAt w lv l → (∀ ad n c, lv = .slice (some ad) n c → ad.block < w.heap.size ∧ ¬ Own2 p o ad.block) →
    Calls Try.prog 12 #[bptr p, .int .i64 elem, .int .i64 many, lv] w fun r w' => r = .returned (putV q) ∧ TurnB B w w' p o most s'
theorem bytesS_one (x : ByteArray) : bytesS [x] = x.data.toList := by simp [bytesS]
end Go.Proofs.Ytajpbclcfjljnaa

/-
  Vectors: the examples of the law.
-/
namespace Go.Proofs.Ytajpbclcfjljnaa
open Go Go.ChangeShapes Go.WideShapes Go.ChangeAt Go.RowKit Go.Joins
open Go.Proofs.Ytajpbclcfjljnaa.Ft (V3 vV okV ValsAt inlineB legalB packF codeF typedF allF)
set_option linter.unusedVariables false
set_option linter.unusedSimpArgs false
theorem vals_row {w : World} {g n c : Nat} {l : List V3} (hn : n = l.length) (hg : w.heap[g]? = some (.cells (valCells l).toArray 30 (0, 0))) : ValsAt w (.slice (some ⟨g, 0, none⟩) n c) l := by
  subst hn
  refine ⟨_, c, rfl, fun i x hx => ?_⟩
  obtain ⟨e0, e1, e2⟩ := valCells_get l i x hx
  refine ⟨_, _, rfl, ?_, ?_, ?_⟩
  · exact row_cell hg _ _ (by simpa using e0)
  · exact row_cell hg _ _ (by simpa using e1)
  · exact row_cell hg _ _ (by simpa using e2)
section
variable {lv : Value} {l : List V3} {most : Int} {s : St}
theorem Puts.un (hl : (s.1.length : Int) ≤ most) (hm1 : most ≤ 1048576) (hlen : l.length ≤ 1048576) (hok : ∀ v ∈ l, okV v) (hs : s.2 = 0) {q : V3 × Int} {s' : St} (h : putF most legalE true true 10 0 l s = (q, s')) : Puts (-1) 0 lv l most s q s' := by
  intro B w p o hb hB hv hap
  have := put_un s lv l hb hB hl hm1 hv hlen hok hap hs
  rw [h] at this
  exact this
theorem Puts.ty0 (elem kd : Int) (hkd : typedF elem 0 = (kd, true)) (hne : elem ≠ -1) (hl : (s.1.length : Int) ≤ most) (hm1 : most ≤ 1048576) (hlen : l.length ≤ 1048576) (hok : ∀ v ∈ l, okV v) (hs : s.2 = 0) {q : V3 × Int} {s' : St} (h : putF most (takesE elem) true false kd 0 l s = (q, s')) : Puts elem 0 lv l most s q s' := by
  intro B w p o hb hB hv hap
  have := put_ty0 elem kd hkd hne s lv l hb hB hl hm1 hv hlen hok hap hs
  rw [h] at this
  exact this
theorem Puts.fix (elem kd many : Int) (hkd : typedF elem many = (kd, true)) (hmany : many = (l.length : Int)) (hpos : 0 < l.length) (hl : (s.1.length : Int) ≤ most) (hm1 : most ≤ 1048576) (hlen : l.length ≤ 1048576) (hok : ∀ v ∈ l, okV v) (hs : s.2 = 0) {q : V3 × Int} {s' : St} (h : putF most (takesE elem) false false kd 0 l s = (q, s')) : Puts elem many lv l most s q s' := by
  subst hmany
  intro B w p o hb hB hv hap
  have := put_fix elem kd s lv l hkd hpos hb hB hl hm1 hv hlen hok hap hs
  rw [h] at this
  exact this
theorem Puts.bad (elem many kd : Int) (hkd : typedF elem many = (kd, true)) (hm : 0 < many) (hlen : l.length ≤ 1048576) (hlm : (l.length : Int) ≠ many) (hs : s.2 = 0) : Puts elem many lv l most s ((0, 0, 0), 2) s := by
  intro B w p o hb hB hv hap
  exact put_bad elem many kd hkd hm s lv l hb hB hv hlen hlm hs
theorem Puts.no (elem many : Int) (hkd : (typedF elem many).2 = false) (hne : ¬ (elem = -1 ∧ many = 0)) (hlen : l.length ≤ 1048576) (hs : s.2 = 0) : Puts elem many lv l most s ((0, 0, 0), 20) s := by
  intro B w p o hb hB hv hap
  exact put_no elem many hkd hne s lv l hb hB hv hlen hs
end
theorem ok_small {l : List V3} (h : l.all (fun v => decide (0 ≤ v.2.2) && decide (v.2.2 ≤ 18446744073709551615)) = true) : ∀ v ∈ l, okV v := by
  intro v hv
  have := List.all_eq_true.1 h v hv
  simp at this
  exact this
abbrev aB : ByteArray := ⟨#[97, 98, 99, 0]⟩
abbrev bB : ByteArray := ⟨#[97, 98, 99]⟩
abbrev eB : ByteArray := ⟨#[]⟩
theorem puts1 (lv : Value) : Puts (-1) 0 lv [(1, 1, 5), (5, 1, 0)] 1000 (aB.data.toList, 0) ((10, 1, 5), 0) ((aB ++ ⟨#[2, 5, 6, 4, 20]⟩).data.toList, 0) :=
  Puts.un (by decide) (by decide) (by decide) (ok_small (by decide)) rfl (by kernel_rfl)
theorem puts2 (lv : Value) : Puts 1 0 lv [(1, 1, 1), (1, 2, 300)] 1000 (bB.data.toList, 0) ((11, 2, 6), 0) ((bB ++ ⟨#[0, 2, 0, 1, 0, 44, 1]⟩).data.toList, 0) :=
  Puts.ty0 1 11 (by kernel_rfl) (by decide) (by decide) (by decide) (by decide) (ok_small (by decide)) rfl (by kernel_rfl)
theorem puts3 (lv : Value) : Puts 2 3 lv [(2, 1, 1), (2, 1, 2), (2, 1, 3)] 1000 (aB.data.toList, 0) ((20, 1, 4), 0) ((aB ++ ⟨#[1, 2, 3]⟩).data.toList, 0) :=
  Puts.fix 2 20 3 (by kernel_rfl) rfl (by decide) (by decide) (by decide) (by decide) (ok_small (by decide)) rfl (by kernel_rfl)
theorem puts4 (lv : Value) : Puts 2 2 lv [(2, 1, 1), (2, 1, 2), (2, 1, 3)] 1000 (aB.data.toList, 0) ((0, 0, 0), 2) ((aB ++ eB).data.toList, 0) :=
  Puts.bad 2 2 17 (by kernel_rfl) (by decide) (by decide) (by decide) rfl
theorem puts5 (lv : Value) : Puts 5 0 lv [(5, 1, 0)] 1000 (aB.data.toList, 0) ((0, 0, 0), 20) ((aB ++ eB).data.toList, 0) :=
  Puts.no 5 0 (by kernel_rfl) (by decide) (by decide) rfl
theorem puts6 (lv : Value) : Puts 1 0 lv [(5, 1, 0)] 1000 (aB.data.toList, 0) ((0, 0, 0), 60) ((aB ++ eB).data.toList, 0) :=
  Puts.ty0 1 11 (by kernel_rfl) (by decide) (by decide) (by decide) (by decide) (ok_small (by decide)) rfl (by kernel_rfl)
theorem puts7 (lv : Value) : Puts (-1) 0 lv [(5, 1, 5)] 1000 (aB.data.toList, 0) ((0, 0, 0), 211) ((aB ++ eB).data.toList, 0) :=
  Puts.un (by decide) (by decide) (by decide) (ok_small (by decide)) rfl (by kernel_rfl)
theorem puts8 (lv : Value) : Puts (-1) 2 lv [] 1000 (aB.data.toList, 0) ((0, 0, 0), 20) ((aB ++ eB).data.toList, 0) :=
  Puts.no (-1) 2 (by kernel_rfl) (by decide) (by decide) rfl
theorem slice1_st {C : Array Value} : ∀ (v : Value) (w w' : World), Grew w w' → (∃ g, v = .slice (some ⟨g, 0, none⟩) 1 1 ∧ w.heap[g]? = some (.cells C 30)) → (∃ g, v = .slice (some ⟨g, 0, none⟩) 1 1 ∧ w'.heap[g]? = some (.cells C 30)) := fun v w w' hg ⟨g, h1, h2⟩ => ⟨g, h1, hg.heap h2⟩
end Go.Proofs.Ytajpbclcfjljnaa

/-
  The plain law of a vector's encoding: what Put appends, and when the room suffices.
-/
namespace Go.Proofs.Ytajpbclcfjljnaa
open Go Go.ChangeShapes Go.WideShapes Go.ChangeAt Go.RowKit Go.Joins
open Go.Proofs.Ytajpbclcfjljnaa.Ft (V3 vV okV ValsAt inlineB legalB packF codeF typedF allF allAt headF fitsL fitsV fitsF belowW isA)
set_option linter.unusedVariables false
set_option linter.unusedSimpArgs false
section
variable {most x u : Int} {y : List UInt8} {s : St} {v : V3}
theorem putS_stuck (h : s.2 ≠ 0) : putS most y s = s := by
  obtain ⟨b, e⟩ := s
  show (putL b y most e, putE b y most e) = (b, e)
  unfold putL putE
  rw [if_neg (fun k => h k.1), if_neg (fun k => h k.1)]
theorem failP_stuck (z : Int) (h : s.2 ≠ 0) : failP z s = s := by
  obtain ⟨b, e⟩ := s
  show (b, failS e z) = (b, e)
  unfold failS
  rw [if_neg h]
theorem alignS_stuck (h : s.2 ≠ 0) : alignS most x s = s := by
  unfold alignS; split
  · exact putS_stuck h
  · exact failP_stuck _ h
theorem numS_stuck (h : s.2 ≠ 0) : numS most x u s = s := by
  unfold numS; split
  · split
    · exact putS_stuck h
    · exact failP_stuck _ h
  · exact failP_stuck _ h
theorem elemS_stuck (h : s.2 ≠ 0) : elemS most x s v = s := by
  unfold elemS; split <;> exact numS_stuck h
theorem elemsS_stuck (h : s.2 ≠ 0) : ∀ l : List V3, elemsS most x l s = s
  | [] => rfl
  | v :: r => by
    show elemsS most x r (elemS most x s v) = s
    rw [elemS_stuck h]
    exact elemsS_stuck h r
theorem tagsS_stuck (h : s.2 ≠ 0) : ∀ l : List V3, tagsS most x l s = s
  | [] => rfl
  | v :: r => by
    show tagsS most x r (tagS most x s v) = s
    rw [show tagS most x s v = s from putS_stuck h]
    exact tagsS_stuck h r
end
theorem putS_full {most : Int} {l y : List UInt8} (hf : ¬ (l.length : Int) + y.length ≤ most) : putS most y (l, 0) = (l, 5) := by
  show (putL l y most 0, putE l y most 0) = _
  unfold putL putE
  rw [if_neg (fun k => hf (by have := k.2; omega)), if_pos ⟨rfl, fun k => hf (by omega)⟩]
def chain (most : Int) : List (List UInt8) → St → St
  | [], s => s
  | y :: r, s => chain most r (putS most y s)
theorem chain_append (most : Int) : ∀ (ys zs : List (List UInt8)) (s : St), chain most (ys ++ zs) s = chain most zs (chain most ys s)
  | [], _, _ => rfl
  | y :: r, zs, s => chain_append most r zs (putS most y s)
theorem chain_stuck {most : Int} {s : St} (h : s.2 ≠ 0) : ∀ ys, chain most ys s = s
  | [] => rfl
  | y :: r => by
    show chain most r (putS most y s) = s
    rw [putS_stuck h]
    exact chain_stuck h r
theorem chain_fit {most : Int} : ∀ (ys : List (List UInt8)) (b : List UInt8), (b.length : Int) + ys.flatten.length ≤ most → chain most ys (b, 0) = (b ++ ys.flatten, 0)
  | [], b, _ => by simp [chain]
  | y :: r, b, h => by
    have h2 : (b.length : Int) + y.length + r.flatten.length ≤ most := by simp at h ⊢; omega
    show chain most r (putS most y (b, 0)) = _
    rw [put_fit most b y (by omega), chain_fit r (b ++ y) (by simp at h2 ⊢; omega)]
    simp
theorem chain_full {most : Int} : ∀ (ys : List (List UInt8)) (b : List UInt8), (b.length : Int) ≤ most → ¬ (b.length : Int) + ys.flatten.length ≤ most → (chain most ys (b, 0)).2 = 5 ∧ ((chain most ys (b, 0)).1.length : Int) ≤ most
  | [], b, hb, h => absurd (by simpa using hb) h
  | y :: r, b, hb, h => by
    show (chain most r (putS most y (b, 0))).2 = 5 ∧ ((chain most r (putS most y (b, 0))).1.length : Int) ≤ most
    by_cases hy : (b.length : Int) + y.length ≤ most
    · rw [put_fit most b y hy]
      exact chain_full r (b ++ y) (by simpa using hy) (by simp at h ⊢; omega)
    · rw [putS_full hy, chain_stuck (s := (b, 5)) (show (5 : Int) ≠ 0 by decide)]
      exact ⟨rfl, hb⟩
def encN (x p : Int) (v : V3) : Int := if inlineB v.1 then lowF v.2.2 x else p - v.2.2
def encL (x : Int) : Int → List V3 → List (List UInt8)
  | _, [] => []
  | p, v :: r => digB x.toNat (encN x p v).toNat :: encL x (p + x) r
def fitE (x : Int) : Int → List V3 → Prop
  | _, [] => True
  | p, v :: r => (0 ≤ encN x p v ∧ encN x p v < 2 ^ (8 * x.toNat)) ∧ fitE x (p + x) r
theorem isW_pow {x : Int} (hx : isW x = true) : (2 : Int) ^ (8 * x.toNat) ≤ 18446744073709551616 := by
  rcases isW_cases hx with rfl | rfl | rfl | rfl <;> decide
theorem isW_pos {x : Int} (hx : isW x = true) : 1 ≤ x ∧ x ≤ 8 := by
  rcases isW_cases hx with rfl | rfl | rfl | rfl <;> decide
theorem numS_put {most x u : Int} {s : St} (hx : isW x = true) (h1 : u < 2 ^ (8 * x.toNat)) : numS most x u s = putS most (digB x.toNat u.toNat) s := by
  unfold numS
  rw [if_pos hx, if_pos (by unfold fitU; exact decide_eq_true h1)]
theorem elemS_put {most x : Int} {b : List UInt8} {v : V3} (hx : isW x = true) (h : 0 ≤ encN x b.length v ∧ encN x b.length v < 2 ^ (8 * x.toNat)) : elemS most x (b, 0) v = putS most (digB x.toNat (encN x b.length v).toNat) (b, 0) := by
  have hp := isW_pow hx
  unfold elemS
  unfold encN at h ⊢
  split
  · rename_i hi
    rw [if_pos hi] at h
    exact numS_put hx h.2
  · rename_i hi
    rw [if_neg hi] at h
    have e : IntKind.u64.wrap ((b.length : Int) - v.2.2) = (b.length : Int) - v.2.2 := by rw [IntKind.wrap_u64]; omega
    show numS most x (IntKind.u64.wrap ((b.length : Int) - v.2.2)) (b, 0) = _
    rw [e]
    exact numS_put hx h.2
theorem elemsS_chain {most x : Int} (hx : isW x = true) : ∀ (l : List V3) (b : List UInt8), fitE x b.length l → elemsS most x l (b, 0) = chain most (encL x b.length l) (b, 0)
  | [], b, _ => rfl
  | v :: r, b, h => by
    have hp := isW_pos hx
    show elemsS most x r (elemS most x (b, 0) v) = chain most (encL x ((b.length : Int) + x) r) (putS most (digB x.toNat (encN x b.length v).toNat) (b, 0))
    rw [elemS_put hx h.1]
    by_cases hf : (b.length : Int) + (digB x.toNat (encN x b.length v).toNat).length ≤ most
    · rw [put_fit _ _ _ hf]
      have e : (b.length : Int) + x = ((b ++ digB x.toNat (encN x b.length v).toNat).length : Int) := by rw [List.length_append, length_digB]; omega
      have h2 := h.2
      rw [e] at h2 ⊢
      exact elemsS_chain hx r _ h2
    · rw [putS_full hf, elemsS_stuck (s := (b, 5)) (show (5 : Int) ≠ 0 by decide), chain_stuck (s := (b, 5)) (show (5 : Int) ≠ 0 by decide)]
theorem tagsS_chain {most x : Int} : ∀ (l : List V3) (s : St), tagsS most x l s = chain most (l.map fun v => [tagB x v]) s
  | [], s => rfl
  | v :: r, s => by
    show tagsS most x r (tagS most x s v) = chain most (r.map fun v => [tagB x v]) (putS most [tagB x v] s)
    have : tagS most x s v = putS most [tagB x v] s := by unfold tagS; rw [show bytesS [⟨#[tagB x v]⟩] = [tagB x v] by simp [bytesS]]
    rw [this]
    exact tagsS_chain r _
theorem pad_eq {x : Int} (hx : isW x = true) (b : List UInt8) : (b.length : Int) + padN b x = ((b.length : Int) + x - 1) / x * x := by
  unfold padN
  rcases isW_cases hx with rfl | rfl | rfl | rfl <;> omega
theorem length_encL {x : Int} (hx : isW x = true) : ∀ (l : List V3) (p : Int), ((encL x p l).flatten.length : Int) = x * l.length
  | [], p => by simp [encL]
  | v :: r, p => by
    have h := length_encL hx r (p + x)
    have hp := isW_pos hx
    simp only [encL, List.flatten_cons, List.length_append, length_digB, List.length_cons]
    have e : x * ((r.length + 1 : Nat) : Int) = x * r.length + x := by rw [Int.natCast_add, Int.mul_add]; simp
    rw [e]
    omega
theorem length_tags (x : Int) (l : List V3) : (l.map fun v => [tagB x v]).flatten.length = l.length := by
  induction l with
  | nil => rfl
  | cons v r ih => simp only [List.map_cons, List.flatten_cons, List.length_append, List.length_cons, List.length_nil, ih]; omega
theorem low_lt (n x : Int) : 0 ≤ lowF n x ∧ lowF n x < 2 ^ (8 * x.toNat) := by
  unfold lowF
  have h : (0 : Int) < 2 ^ (8 * x.toNat) := Int.pow_pos (by decide)
  exact ⟨Int.emod_nonneg _ (by omega), Int.emod_lt_of_pos _ h⟩
theorem fitE_of {x at_ : Int} (hx : isW x = true) : ∀ (l : List V3) (i p : Int), p = (at_ + x - 1) / x * x + i * x → 0 ≤ i → fitsL l at_ i x = true → fitE x p l
  | [], _, _, _, _, _ => trivial
  | v :: r, i, p, hp, hi, h => by
    have hw := isW_pos hx
    have h1 : fitsV v at_ i x = true := by
      have : (fitsV v at_ i x && fitsL r at_ (i + 1) x) = true := h
      simp at this; exact this.1
    have h2 : fitsL r at_ (i + 1) x = true := by
      have : (fitsV v at_ i x && fitsL r at_ (i + 1) x) = true := h
      simp at this; exact this.2
    have hs : p + x = (at_ + x - 1) / x * x + (i + 1) * x := by rw [hp, Int.add_mul]; omega
    refine ⟨?_, fitE_of hx r (i + 1) (p + x) hs (by omega) h2⟩
    unfold encN
    split
    · exact low_lt _ _
    · rename_i hn
      unfold fitsV fitsF at h1
      rw [if_neg hn] at h1
      simp only [Bool.and_eq_true, decide_eq_true_eq, belowW] at h1
      have hge : at_ ≤ (at_ + x - 1) / x * x := by rcases isW_cases hx with rfl | rfl | rfl | rfl <;> omega
      have hix : 0 ≤ i * x := Int.mul_nonneg hi (by omega)
      rw [hp]
      exact ⟨by omega, h1.2⟩
def pieces (x : Int) (len tagged : Bool) (b : List UInt8) (l : List V3) : List (List UInt8) :=
  zeros (padN b x) :: (if len then [digB x.toNat l.length] else []) ++ encL x ((b.length : Int) + padN b x + (if len then x else 0)) l ++ (if tagged then l.map fun v => [tagB x v] else [])
def lenOf (x : Int) (len tagged : Bool) (b : List UInt8) (l : List V3) : Int := b.length + padN b x + (if len then x else 0) + x * l.length + (if tagged then (l.length : Int) else 0)
theorem length_pieces {x : Int} (hx : isW x = true) (len tagged : Bool) (b : List UInt8) (l : List V3) : (b.length : Int) + (pieces x len tagged b l).flatten.length = lenOf x len tagged b l := by
  have h1 := length_encL hx l ((b.length : Int) + padN b x + (if len then x else 0))
  have h2 := length_tags x l
  have hp := isW_pos hx
  unfold pieces lenOf
  cases len <;> cases tagged <;> simp only [List.flatten_append, List.flatten_cons, List.length_append, List.flatten_nil, List.length_nil, length_zeros, length_digB, if_true, Bool.false_eq_true, if_false, List.cons_append, List.nil_append] at h1 ⊢ <;> omega
theorem leastOf_holds {p : Int → Bool} (h : Ft.leastOf p ≠ 0) : p (Ft.leastOf p) = true := by
  revert h
  unfold Ft.leastOf
  repeat' split
  all_goals simp_all
theorem leastOf_ok {p : Int → Bool} (h : p 8 = true) : Ft.leastOf p ≠ 0 := by
  unfold Ft.leastOf
  repeat' split
  all_goals simp_all
def Near (n : Int) (v : V3) : Prop := legalE v = 0 ∧ okV v ∧ (inlineB v.1 = true → v.2.1 ≤ 8) ∧ (inlineB v.1 = false → v.2.2 ≤ n)
theorem fits_near {n : Int} : ∀ (l : List V3) (i : Int), (∀ v ∈ l, Near n v) → 0 ≤ n → 0 ≤ i → n + 8 + (i + l.length) * 8 < 18446744073709551616 → fitsL l n i 8 = true
  | [], _, _, _, _, _ => rfl
  | v :: r, i, h, hn, hi, hb => by
    have hv := h v (by simp)
    obtain ⟨_, ho, h1, h2⟩ := hv
    have hc : ((v :: r).length : Int) = r.length + 1 := by simp
    rw [hc] at hb
    have e : fitsL (v :: r) n i 8 = (fitsV v n i 8 && fitsL r n (i + 1) 8) := rfl
    rw [e, fits_near r (i + 1) (fun u hu => h u (by simp [hu])) hn (by omega) (by omega), Bool.and_true]
    unfold fitsV fitsF
    cases hi2 : inlineB v.1 with
    | true => simp; exact h1 hi2
    | false =>
      have := h2 hi2
      have h0 := ho.1
      simp only [Bool.false_eq_true, if_false, Bool.and_eq_true, decide_eq_true_eq, belowW]
      refine ⟨this, ?_⟩
      show (n + 8 - 1) / 8 * 8 + i * 8 - v.2.2 < 2 ^ (8 * (8 : Int).toNat)
      have : (2 : Int) ^ (8 * (8 : Int).toNat) = 18446744073709551616 := by decide
      omega
theorem allF_near {n ahead : Int} {l : List V3} (ha : ahead = 0 ∨ ahead = 1) (hn : 0 ≤ n) (hn2 : n ≤ 1048576) (hl : l.length ≤ 1048576) (h : ∀ v ∈ l, Near n v) :
    allF l (0, 0, 0) n ahead = Ft.leastOf (fun v => allAt l (0, 0, 0) n ahead v) ∧ allF l (0, 0, 0) n ahead ≠ 0 ∧ isW (allF l (0, 0, 0) n ahead) = true ∧ allAt l (0, 0, 0) n ahead (allF l (0, 0, 0) n ahead) = true := by
  have hA : isA ahead := by rcases ha with rfl | rfl <;> simp [isA]
  have e : allF l (0, 0, 0) n ahead = Ft.leastOf (fun v => allAt l (0, 0, 0) n ahead v) := by
    unfold allF
    rw [if_pos ⟨⟨hn, by omega⟩, hA, hl⟩]
  have h8 : allAt l (0, 0, 0) n ahead 8 = true := by
    unfold allAt
    rw [fits_near l ahead h hn (by omega) (by omega), Bool.and_true]
    unfold headF
    have : (ahead == 3) = false := by rcases ha with rfl | rfl <;> rfl
    rw [this]
    have hb : belowW l.length 8 = true := by unfold belowW; rw [decide_eq_true_eq]; have : (2 : Int) ^ (8 * (8 : Int).toNat) = 18446744073709551616 := by decide
                                             omega
    rw [hb]
    simp
  have h0 : allF l (0, 0, 0) n ahead ≠ 0 := by rw [e]; exact leastOf_ok h8
  refine ⟨e, h0, allF_isW h0, ?_⟩
  have := leastOf_holds (p := fun v => allAt l (0, 0, 0) n ahead v) (by rw [← e]; exact h0)
  rw [← e] at this
  exact this
theorem putF_chain {most : Int} {T : V3 → Int} {len tagged : Bool} {kind : Int} {b : List UInt8} {l : List V3} (hT : ∀ v ∈ l, T v = 0) (hb : b.length ≤ 1048576) (hl : l.length ≤ 1048576) (h : ∀ v ∈ l, Near b.length v) :
    putF most T len tagged kind 0 l (b, 0) = (fun x => (fun sf : St => if sf.2 ≠ 0 then (((0, 0, 0), sf.2), sf) else (((kind, x, ((chain most (zeros (padN b x) :: (if len then [digB x.toNat l.length] else [])) (b, 0)).1.length : Int)), 0), sf)) (chain most (pieces x len tagged b l) (b, 0))) (allF l (0, 0, 0) b.length (if len then 1 else 0)) := by
  have hT0 : eachL T 0 l = 0 := by
    clear hl h
    induction l with
    | nil => rfl
    | cons v r ih =>
      show eachL T (if (0 : Int) = 0 then T v else 0) r = 0
      rw [if_pos rfl, hT v (by simp)]
      exact ih fun u hu => hT u (by simp [hu])
  obtain ⟨e, x0, hx, hall⟩ := allF_near (n := b.length) (ahead := if len then 1 else 0) (by cases len <;> simp) (by omega) (by omega) hl h
  unfold putF
  rw [if_neg (by simpa using hT0)]
  simp only [if_neg x0]
  generalize allF l (0, 0, 0) b.length (if len then 1 else 0) = x at *
  have hw := isW_pos hx
  have hfit : fitsL l b.length (if len then 1 else 0) x = true := by
    have h := hall
    unfold allAt at h
    simp only [Bool.and_eq_true] at h
    exact h.2
  have hlen : len = true → (l.length : Int) < 2 ^ (8 * x.toNat) := by
    intro hl1
    subst hl1
    have h := hall
    unfold allAt headF at h
    simp only [Bool.and_eq_true, belowW] at h
    have := h.1.1
    simpa using this
  have hp := pad_eq hx b
  have e1 : alignS most x (b, 0) = chain most [zeros (padN b x)] (b, 0) := by
    unfold alignS
    rw [if_pos hx]
    rfl
  have e2 : (if len then numS most x l.length (alignS most x (b, 0)) else alignS most x (b, 0)) = chain most (zeros (padN b x) :: (if len then [digB x.toNat l.length] else [])) (b, 0) := by
    rw [e1]
    cases len with
    | false => rfl
    | true =>
      rw [if_pos rfl, numS_put hx (hlen rfl)]
      rfl
  have e2' : (if len = true then numS most x (↑l.length) (alignS most x (b, 0)) else alignS most x (b, 0)) = chain most (zeros (padN b x) :: (if len then [digB x.toNat l.length] else [])) (b, 0) := e2
  rw [e2']
  have e3 : (if tagged = true then tagsS most x l (elemsS most x l (chain most (zeros (padN b x) :: (if len then [digB x.toNat l.length] else [])) (b, 0))) else elemsS most x l (chain most (zeros (padN b x) :: (if len then [digB x.toNat l.length] else [])) (b, 0))) = chain most (pieces x len tagged b l) (b, 0) := by
    have e4 : elemsS most x l (chain most (zeros (padN b x) :: (if len then [digB x.toNat l.length] else [])) (b, 0)) = chain most (encL x ((b.length : Int) + padN b x + (if len then x else 0)) l) (chain most (zeros (padN b x) :: (if len then [digB x.toNat l.length] else [])) (b, 0)) := by
      by_cases hf : (b.length : Int) + (zeros (padN b x) :: (if len then [digB x.toNat l.length] else [])).flatten.length ≤ most
      · rw [chain_fit _ _ hf]
        have hl2 : ((b ++ (zeros (padN b x) :: (if len then [digB x.toNat l.length] else [])).flatten).length : Int) = (b.length : Int) + padN b x + (if len then x else 0) := by
          cases len <;> simp [length_zeros, length_digB] <;> omega
        rw [elemsS_chain hx l _ (by
          rw [hl2]
          refine fitE_of hx l (if len then 1 else 0) _ ?_ (by cases len <;> simp) hfit
          rw [hp]
          cases len <;> simp), hl2]
      · by_cases hb2 : (b.length : Int) ≤ most
        · have h5 : (chain most (zeros (padN b x) :: (if len then [digB x.toNat l.length] else [])) (b, 0)).2 ≠ 0 := by rw [(chain_full _ b hb2 hf).1]; decide
          rw [elemsS_stuck h5, chain_stuck h5]
        · have h5 : chain most (zeros (padN b x) :: (if len then [digB x.toNat l.length] else [])) (b, 0) = (b, 5) := by
            show chain most _ (putS most (zeros (padN b x)) (b, 0)) = _
            rw [putS_full (by rw [length_zeros]; omega), chain_stuck (s := (b, 5)) (show (5 : Int) ≠ 0 by decide)]
          rw [h5, elemsS_stuck (s := (b, 5)) (show (5 : Int) ≠ 0 by decide), chain_stuck (s := (b, 5)) (show (5 : Int) ≠ 0 by decide)]
    rw [e4]
    unfold pieces
    rw [chain_append, chain_append]
    cases tagged with
    | false => rfl
    | true =>
      rw [if_pos rfl, if_pos rfl, tagsS_chain]
  rw [e3]
theorem putF_ok {most : Int} {T : V3 → Int} {len tagged : Bool} {kind : Int} {b : List UInt8} {l : List V3} {x : Int} (hT : ∀ v ∈ l, T v = 0) (hb : b.length ≤ 1048576) (hl : l.length ≤ 1048576) (h : ∀ v ∈ l, Near b.length v)
    (hx : allF l (0, 0, 0) b.length (if len then 1 else 0) = x) (hr : lenOf x len tagged b l ≤ most) : putF most T len tagged kind 0 l (b, 0) = (((kind, x, (b.length : Int) + padN b x + (if len then x else 0)), 0), (b ++ (pieces x len tagged b l).flatten, 0)) := by
  obtain ⟨_, _, hw, _⟩ := allF_near (n := b.length) (ahead := if len then 1 else 0) (by cases len <;> simp) (by omega) (by omega) hl h
  rw [putF_chain hT hb hl h]
  simp only [hx]
  rw [hx] at hw
  have hwp := isW_pos hw
  have hpl := length_pieces hw len tagged b l
  rw [chain_fit (pieces x len tagged b l) b (by omega)]
  have hmul : 0 ≤ x * (l.length : Int) := Int.mul_nonneg (by omega) (by omega)
  rw [if_neg (by simp), chain_fit _ b (by unfold lenOf at hr; cases len <;> cases tagged <;> simp [length_zeros, length_digB] at hr ⊢ <;> omega)]
  have hl2 : ((b ++ (zeros (padN b x) :: (if len then [digB x.toNat l.length] else [])).flatten).length : Int) = (b.length : Int) + padN b x + (if len then x else 0) := by
    cases len <;> simp [length_zeros, length_digB] <;> omega
  rw [hl2]
theorem putF_full {most : Int} {T : V3 → Int} {len tagged : Bool} {kind : Int} {b : List UInt8} {l : List V3} {x : Int} (hT : ∀ v ∈ l, T v = 0) (hb : b.length ≤ 1048576) (hbm : (b.length : Int) ≤ most) (hl : l.length ≤ 1048576) (h : ∀ v ∈ l, Near b.length v)
    (hx : allF l (0, 0, 0) b.length (if len then 1 else 0) = x) (hr : ¬ lenOf x len tagged b l ≤ most) : (putF most T len tagged kind 0 l (b, 0)).1 = ((0, 0, 0), 5) ∧ (putF most T len tagged kind 0 l (b, 0)).2.2 = 5 ∧ ((putF most T len tagged kind 0 l (b, 0)).2.1.length : Int) ≤ most := by
  obtain ⟨_, _, hw, _⟩ := allF_near (n := b.length) (ahead := if len then 1 else 0) (by cases len <;> simp) (by omega) (by omega) hl h
  rw [putF_chain hT hb hl h]
  simp only [hx]
  rw [hx] at hw
  have hpl := length_pieces hw len tagged b l
  obtain ⟨h5, hle⟩ := chain_full (pieces x len tagged b l) b hbm (by omega)
  rw [if_pos (by omega)]
  exact ⟨by rw [h5], h5, hle⟩
end Go.Proofs.Ytajpbclcfjljnaa

/-
  Vectors: the law's values are near; half of the least width does not fit.
-/
namespace Go.Proofs.Ytajpbclcfjljnaa
open Go Go.ChangeShapes Go.WideShapes Go.ChangeAt Go.RowKit Go.Joins
open Go.Proofs.Ytajpbclcfjljnaa.Ft (V3 vV okV ValsAt inlineB legalB packF codeF typedF allF allAt headF fitsL fitsV fitsF belowW isA)
set_option linter.unusedVariables false
set_option linter.unusedSimpArgs false
theorem widF_cases (n : Int) : (widF n = 1 ∧ n < 128) ∨ (widF n = 2 ∧ n < 32768) ∨ (widF n = 4 ∧ n < 2147483648) ∨ widF n = 8 := by
  unfold widF; repeat' split
  all_goals omega
theorem widF_le (n : Int) : widF n ≤ 8 := by rcases widF_cases n with h | h | h | h <;> omega
theorem inl_1 : inlineB 1 = true := by decide
theorem inl_2 : inlineB 2 = true := by decide
theorem inl_26 : inlineB 26 = true := by decide
theorem legal_of_inline (t wd n : Int) (h : inlineB t = true) (hl : legalB t = true) : legalE (t, wd, n) = 0 := by
  unfold legalE; rw [if_pos hl, if_pos h]
theorem far_facts (k : Int) (h0 : 0 ≤ k) (h1 : k < 5) : legalB (kindF k) = true ∧ inlineB (kindF k) = false := by
  rcases (show k = 0 ∨ k = 1 ∨ k = 2 ∨ k = 3 ∨ k = 4 by omega) with rfl | rfl | rfl | rfl | rfl <;> decide
theorem shl_isW (k : Int) (h0 : 0 ≤ k) (h1 : k < 4) : isW (shlF k) = true := by
  rcases (show k = 0 ∨ k = 1 ∨ k = 2 ∨ k = 3 by omega) with rfl | rfl | rfl | rfl <;> decide
theorem wrapU_range (n : Int) : 0 ≤ IntKind.u64.wrap n ∧ IntKind.u64.wrap n ≤ 18446744073709551615 := by
  rw [IntKind.wrap_u64]; omega
theorem valN_cases (k n a : Int) (h0 : 0 ≤ n) (h1 : n < 1099511627776) (ha : 1 ≤ a) :
    (valN k n a = (1, widF n, n)) ∨ (valN k n a = (1, widF n, IntKind.u64.wrap (-n))) ∨ (valN k n a = (2, widF n, n)) ∨ (valN k n a = (26, 1, n % 2)) ∨
    (∃ t w u : Int, valN k n a = (t, w, u) ∧ legalB t = true ∧ inlineB t = false ∧ isW w = true ∧ 0 ≤ u ∧ u < a) := by
  unfold valN
  split
  · exact .inl rfl
  split
  · exact .inr (.inl rfl)
  split
  · exact .inr (.inr (.inl rfl))
  split
  · exact .inr (.inr (.inr (.inl rfl)))
  · refine .inr (.inr (.inr (.inr ⟨kindF (n % 5), shlF (n / 5 % 4), n % max a 1, rfl, ?_, ?_, ?_, ?_, ?_⟩)))
    · exact (far_facts _ (by omega) (by omega)).1
    · exact (far_facts _ (by omega) (by omega)).2
    · exact shl_isW _ (by omega) (by omega)
    · exact Int.emod_nonneg _ (by omega)
    · have := Int.emod_lt_of_pos n (show 0 < max a 1 by omega)
      omega
theorem near_val (x : Int × Int) (a : Int) (ha : 1 ≤ a) (ha2 : a ≤ 1048576) : Near a (valF x a) := by
  unfold valF
  have h0 : 0 ≤ x.2 % 1099511627776 := by omega
  have h1 : x.2 % 1099511627776 < 1099511627776 := by omega
  generalize x.2 % 1099511627776 = n at *
  have hw := widF_le n
  rcases valN_cases (x.1 % 6) n a h0 h1 ha with h | h | h | h | ⟨t, w, u, h, hl, hi, hww, hu0, hu1⟩
  · rw [h]
    exact ⟨legal_of_inline _ _ _ inl_1 (by decide), ⟨by show 0 ≤ n; omega, by show n ≤ _; omega⟩, fun _ => hw, fun h => absurd inl_1 (by rw [show inlineB 1 = false from h]; decide)⟩
  · rw [h]
    exact ⟨legal_of_inline _ _ _ inl_1 (by decide), wrapU_range _, fun _ => hw, fun h => absurd inl_1 (by rw [show inlineB 1 = false from h]; decide)⟩
  · rw [h]
    exact ⟨legal_of_inline _ _ _ inl_2 (by decide), ⟨by show 0 ≤ n; omega, by show n ≤ _; omega⟩, fun _ => hw, fun h => absurd inl_2 (by rw [show inlineB 2 = false from h]; decide)⟩
  · rw [h]
    refine ⟨legal_of_inline _ _ _ inl_26 (by decide), ⟨?_, ?_⟩, fun _ => by show (1 : Int) ≤ 8; decide, fun h => absurd inl_26 (by rw [show inlineB 26 = false from h]; decide)⟩
    · show 0 ≤ n % 2; omega
    · show n % 2 ≤ _; omega
  · rw [h]
    refine ⟨?_, ⟨hu0, by show u ≤ _; omega⟩, fun h => ?_, fun _ => by show u ≤ a; omega⟩
    · unfold legalE
      rw [if_pos hl]
      simp only [hi, hww, Bool.false_eq_true, if_false, if_true]
    · rw [show inlineB t = true from h] at hi; cases hi
theorem near_vals (l : List (Int × Int)) (a : Int) (ha : 1 ≤ a) (ha2 : a ≤ 1048576) : ∀ v ∈ valsF l a, Near a v := by
  intro v hv
  obtain ⟨x, _, rfl⟩ := List.mem_map.1 hv
  exact near_val x a ha ha2
theorem legal_vals {a : Int} {l : List V3} (h : ∀ v ∈ l, Near a v) : ∀ v ∈ l, legalE v = 0 := fun v hv => (h v hv).1
theorem okV_vals {a : Int} {l : List V3} (h : ∀ v ∈ l, Near a v) : ∀ v ∈ l, okV v := fun v hv => (h v hv).2.1
theorem roomOf_big : roomOf 1048576 = 1048576 := by unfold roomOf; omega
theorem filled_big (n : Nat) (h : n ≤ 1048576) : putS 1048576 (zeros n) ([], 0) = (zeros n, 0) := by
  rw [put_fit _ _ _ (by rw [length_zeros]; simp; omega), List.nil_append]
theorem lenOf_le {x : Int} (hx : isW x = true) (len tagged : Bool) (b : List UInt8) (l : List V3) : lenOf x len tagged b l ≤ b.length + 15 + 9 * l.length := by
  have hw := isW_pos hx
  have hp := (padN_lt (l := b) hx).1
  have hm : x * (l.length : Int) ≤ 8 * l.length := Int.mul_le_mul_of_nonneg_right hw.2 (by omega)
  unfold lenOf
  cases len <;> cases tagged <;> simp only [if_true, Bool.false_eq_true, if_false] <;> omega
theorem fitsL_false : ∀ (l : List V3) (at_ i h : Int), fitsL l at_ i h = false → ∃ (k : Nat) (v : V3), l[k]? = some v ∧ fitsV v at_ (i + k) h = false
  | [], _, _, _, h => by cases h
  | v :: r, at_, i, w, h => by
    have e : (fitsV v at_ i w && fitsL r at_ (i + 1) w) = false := h
    rw [Bool.and_eq_false_iff] at e
    rcases e with e | e
    · exact ⟨0, v, rfl, by simpa using e⟩
    · obtain ⟨k, u, h1, h2⟩ := fitsL_false r at_ (i + 1) w e
      exact ⟨k + 1, u, h1, by rw [show i + ((k + 1 : Nat) : Int) = i + 1 + k by omega]; exact h2⟩
def tightAt (h bg : Int) (i : Nat) (v : V3) : Prop := (inlineB v.1 = true ∧ h < v.2.1) ∨ (inlineB v.1 = false ∧ 2 ^ (8 * h.toNat) ≤ bg + (i + 1) * h - v.2.2)
theorem half_tight {n : Int} {l : List V3} {x h : Int} (hn : 0 ≤ n) (hn2 : n ≤ 1048576) (hl : l.length ≤ 1048576) (hN : ∀ v ∈ l, Near n v) (hx : allF l (0, 0, 0) n 1 = x) (hh : x = 2 * h) (h1 : 1 ≤ h) :
    (2 : Int) ^ (8 * h.toNat) ≤ l.length ∨ ∃ (i : Nat) (v : V3), l[i]? = some v ∧ tightAt h ((n + h - 1) / h * h) i v := by
  obtain ⟨e, x0, hw, hall⟩ := allF_near (n := n) (ahead := 1) (.inr rfl) hn hn2 hl hN
  have hf : allAt l (0, 0, 0) n 1 h = false := by
    rw [hx] at e
    rw [hx] at hw
    have hc := isW_cases hw
    cases hp1 : allAt l (0, 0, 0) n 1 1 with
    | true => have : Ft.leastOf (fun v => allAt l (0, 0, 0) n 1 v) = 1 := by unfold Ft.leastOf; simp [hp1]
              omega
    | false =>
      cases hp2 : allAt l (0, 0, 0) n 1 2 with
      | true => have : Ft.leastOf (fun v => allAt l (0, 0, 0) n 1 v) = 2 := by unfold Ft.leastOf; simp [hp1, hp2]
                have : h = 1 := by omega
                rw [this]; exact hp1
      | false =>
        cases hp4 : allAt l (0, 0, 0) n 1 4 with
        | true => have : Ft.leastOf (fun v => allAt l (0, 0, 0) n 1 v) = 4 := by unfold Ft.leastOf; simp [hp1, hp2, hp4]
                  have : h = 2 := by omega
                  rw [this]; exact hp2
        | false =>
          rcases (show h = 1 ∨ h = 2 ∨ h = 4 by omega) with rfl | rfl | rfl
          · exact hp1
          · exact hp2
          · exact hp4
  unfold allAt at hf
  rw [Bool.and_eq_false_iff] at hf
  rcases hf with hf | hf
  · left
    unfold headF belowW at hf
    simp at hf
    exact hf
  · right
    obtain ⟨k, v, hk, hv⟩ := fitsL_false _ _ _ _ hf
    refine ⟨k, v, hk, ?_⟩
    have hNv := hN v (List.mem_of_getElem? hk)
    unfold fitsV fitsF at hv
    unfold tightAt
    cases hi : inlineB v.1 with
    | true =>
      rw [hi] at hv
      simp at hv
      exact .inl ⟨rfl, hv⟩
    | false =>
      rw [hi] at hv
      have := hNv.2.2.2 hi
      simp only [Bool.false_eq_true, if_false, belowW, Bool.and_eq_false_iff, decide_eq_false_iff_not] at hv
      refine .inr ⟨rfl, ?_⟩
      rcases hv with hv | hv
      · omega
      · rw [show ((k : Int) + 1) * h = (1 + k) * h by rw [Int.add_comm]]
        omega
end Go.Proofs.Ytajpbclcfjljnaa
