/-
  Texts of the proof, part 5 of 21.
-/
import Derived.Test.YtajpbclcfjljnaaPAD
import Derived.Lib.BufferMore
import Derived.Test.YtajpbclcfjljnaaPAA

/-
  The copy of a byte slice (slices.Clone) and the buffer's Bytes.
-/
namespace Go.Proofs.Ytajpbclcfjljnaa
open Go Go.ChangeShapes Go.WideShapes Go.ChangeAt Go.RowKit Go.Joins
set_option linter.unusedVariables false
set_option linter.unusedSimpArgs false
theorem cloneB_any (w : World) (v : Value) (x : List UInt8) (h : BytesAt w v x) (hl : x.length ≤ 1099511627776) :
    Calls Try.prog 35 #[v] w fun r w' => ∃ v', r = .returned v' ∧ w'.ownsRow w.heap.size 5 1 v' x.length (Lib.byteCells x) ∧ Grew w w' := by
  have HX := Lib.hid h
  obtain ⟨a, c, rfl, hc, hnil, _⟩ := h
  cases a with
  | none =>
    have h0 := hnil rfl
    subst h0
    have h1 : x = [] := List.length_eq_zero_iff.1 (by omega)
    subst h1
    have hq := fun W => Lib.run_eql_slice_nil_nil (P := Try.prog) W 0 0 Try.underlying36
    show Calls Try.prog 35 #[.slice none 0 0] w _
    go_enter Try.func35, Try.ntmps35
    go_wp2
    go_ret
    exact ⟨_, rfl, World.ownsRow_nil _ _ _ _, Grew.refl _⟩
  | some ad =>
    have hq := fun W => Lib.run_eql_slice_some_nil (P := Try.prog) W ad x.length c Try.underlying36
    have hown : Hid ((w.alloc (.cells #[] 5)).ownsRow w.heap.size 5 1 (.slice (some ⟨w.heap.size, 0, none⟩) 0 0) ([] : List UInt8).length (Lib.byteCells [])) :=
      World.ownsRow_made w #[] 0 (Nat.le_refl _) (by decide) rfl
    have HX2 := Lib.hid (HX.out.grew ((Grew.refl w).alloc (.cells #[] 5)))
    go_enter Try.func35, Try.ntmps35
    go_wp2_with (at_builtin; refine wpList_appendB rfl _ _ rfl w.heap.size (.slice (some ⟨w.heap.size, 0, none⟩) 0 0) [] rfl hown.out _ x rfl HX2.out (by simp; omega) (by simp) ?_; intro v' w3 hown2 hgr hqq; obtain ⟨va2, vc2, rfl, _, _⟩ := row_form hown2; have HO := Lib.hid (And.intro hown2 hgr); clear hown2 hgr hqq)
    go_ret
    refine ⟨_, rfl, by simpa using HO.out.1, ?_⟩
    have h1 : Below w.heap.size w (w.alloc (.cells #[] 5)) := (Grew.refl w).alloc _
    exact h1.grown HO.out.2 (by simp) (fun k hk => by cases hk; exact Nat.le_refl _)
theorem bytes_any {B : Nat} {w : World} {p : Nat} {o : Option Nat} {l : List UInt8} {most e : Int} (h : BufAt B w p o l most e) (hl : l.length ≤ 1099511627776) :
    Calls Try.prog 13 #[bptr p] w fun r w' => ∃ v', r = .returned (.tuple #[v', .int .i64 e]) ∧ w'.ownsRow w.heap.size 5 1 v' (if e = 0 then l else []).length (Lib.byteCells (if e = 0 then l else [])) ∧ Grew w w' := by
  have HB := Lib.hid h
  obtain ⟨hBp, v, h1, h2, h3, h4⟩ := h
  obtain ⟨c0, c1, c2, c3⟩ := four_cells h1
  obtain ⟨va, vc, rfl, hcap, hnil⟩ := row_form h2
  have HX := Lib.hid (BytesAt.of_own h2)
  clear h1 h2 h3 h4
  go_enter Try.func13, Try.ntmps13
  go_wp2_with fail
  refine (err_any HB.out).mono ?_
  rintro r w' ⟨rfl, rfl⟩
  by_cases he : e = 0
  · subst he
    go_wp2_with fail
    refine (cloneB_any _ _ l HX.out hl).mono ?_
    rintro r w3 ⟨v', rfl, ho, hg⟩
    have HO := Lib.hid (And.intro ho hg)
    clear ho hg
    go_wp2
    go_ret2
    exact ⟨_, rfl, HO.out⟩
  · go_wp2
    go_ret2
    exact ⟨_, rfl, World.ownsRow_nil _ _ _ _, Grew.refl _⟩
end Go.Proofs.Ytajpbclcfjljnaa

/-
  The reference buffer: fail, put, Cut, Bytes.
-/
namespace Go.Proofs.Ytajpbclcfjljnaa
open Go Go.ChangeShapes Go.WideShapes Go.ChangeAt Go.RowKit Go.Joins
set_option linter.unusedVariables false
set_option linter.unusedSimpArgs false
theorem three_cells {w : World} {p : Nat} {a b c : Value} {t : TypeId} (h : w.heap[p]? = some (.cells #[a, b, c] t (0, 0))) :
    w.cell? ⟨p, 0, none⟩ = some a ∧ w.cell? ⟨p, 1, none⟩ = some b ∧ w.cell? ⟨p, 2, none⟩ = some c :=
  ⟨by rw [cell_of_row w p 0 _ _ _ h]; rfl, by rw [cell_of_row w p 1 _ _ _ h]; rfl, by rw [cell_of_row w p 2 _ _ _ h]; rfl⟩
theorem heap_set3 {w : World} {p : Nat} {a b c : Value} {t : TypeId} (h : w.heap[p]? = some (.cells #[a, b, c] t (0, 0))) (v : Value) :
    (w.setCell ⟨p, 2, none⟩ v).heap[p]? = some (.cells #[a, b, v] t (0, 0)) ∧ (w.setCell ⟨p, 0, none⟩ v).heap[p]? = some (.cells #[v, b, c] t (0, 0)) :=
  ⟨by have := heap_setCell_same w p 2 _ _ v h; simpa using this, by have := heap_setCell_same w p 0 _ _ v h; simpa using this⟩
end Go.Proofs.Ytajpbclcfjljnaa

/-
  The reference buffer: the copy of bytes, Cut, Bytes.
-/
namespace Go.Proofs.Ytajpbclcfjljnaa
open Go Go.ChangeShapes Go.WideShapes Go.ChangeAt Go.RowKit Go.Joins
set_option linter.unusedVariables false
set_option linter.unusedSimpArgs false
theorem own_base {w : World} {B B' : Nat} {t : TypeId} {v : Value} {n : Nat} {xs : List Value} (h : w.ownsRow B t 1 v n xs) (hb : B' ≤ B) : w.ownsRow B' t 1 v n xs := by
  obtain ⟨h1, h2⟩ := h
  refine ⟨h1, ?_⟩
  rcases h2 with h2 | ⟨g, cap, cur, hv, hg, r⟩
  · exact .inl h2
  · exact .inr ⟨g, cap, cur, hv, by omega, r⟩
end Go.Proofs.Ytajpbclcfjljnaa

/-
  Widths: width.Code, the reference's width, le.is, le.fits.
-/
namespace Go.Proofs.Ytajpbclcfjljnaa
open Go Go.ChangeShapes Go.WideShapes Go.ChangeAt Go.RowKit Go.Joins
set_option linter.unusedVariables false
set_option linter.unusedSimpArgs false
def isW (w : Int) : Bool := w == 1 || w == 2 || w == 4 || w == 8
theorem leis_any (x : Int) (w : World) :
    Calls Try.prog 63 #[.int .i64 x] w fun r w' => r = .returned (.bool (isW x)) ∧ w' = w := by
  go_enter Try.func63, Try.ntmps63
  by_cases h1 : x = 1
  · subst h1; go_wp2; go_ret; exact ⟨rfl, rfl⟩
  by_cases h2 : x = 2
  · subst h2; go_wp2; go_ret; exact ⟨rfl, rfl⟩
  by_cases h4 : x = 4
  · subst h4; go_wp2; go_ret; exact ⟨rfl, rfl⟩
  by_cases h8 : x = 8
  · subst h8; go_wp2; go_ret; exact ⟨rfl, rfl⟩
  go_wp2
  go_ret
  refine ⟨?_, rfl⟩
  simp [isW, h1, h2, h4, h8]
def codeE (x : Int) : Int := if isW x then 0 else 2
theorem code_any (x : Int) (w : World) :
    Calls Try.prog 45 #[.int .i64 x] w fun r w' => (∃ c, r = .returned (.tuple #[.int .i64 c, .int .i64 (codeE x)])) ∧ w' = w := by
  have hstep : ∀ k : Nat, (∀ j : Nat, j < k → x ≠ 2 ^ j) → x ≠ 2 ^ k → ∀ j : Nat, j < k + 1 → x ≠ 2 ^ j := by
    intro k h1 h2 j hj
    rcases (by omega : j < k ∨ j = k) with h | rfl
    · exact h1 j h
    · exact h2
  go_enter Try.func45, Try.ntmps45
  go_wp2_with fail
  go_loopw [5] (fun i wr => wr = w ∧ ∃ k : Nat, k ≤ 4 ∧ i = .int .i64 k ∧ Hid (∀ j : Nat, j < k → x ≠ 2 ^ j)) (fun i _ => 4 - (intOf i).toNat)
  case atStart => exact ⟨rfl, 0, by omega, rfl, fun j hj => by omega⟩
  case round =>
    obtain ⟨rfl, k, hk, rfl, HN⟩ := hrel
    by_cases hlt : k < 4
    · obtain rfl | rfl | rfl | rfl : k = 0 ∨ k = 1 ∨ k = 2 ∨ k = 3 := by omega
      · by_cases hx : x = 1
        · subst hx
          go_wp2
          go_ret2
          exact ⟨⟨_, rfl⟩, rfl⟩
        · go_wp2_with fail
          go_roundw
          case rel => exact ⟨trivial, 1, by omega, by go_num, hstep _ HN.out (by simpa using hx)⟩
          case measure => simp [intOf]
      · by_cases hx : x = 2
        · subst hx
          go_wp2
          go_ret2
          exact ⟨⟨_, rfl⟩, rfl⟩
        · go_wp2_with fail
          go_roundw
          case rel => exact ⟨trivial, 2, by omega, by go_num, hstep _ HN.out (by simpa using hx)⟩
          case measure => simp [intOf]
      · by_cases hx : x = 4
        · subst hx
          go_wp2
          go_ret2
          exact ⟨⟨_, rfl⟩, rfl⟩
        · go_wp2_with fail
          go_roundw
          case rel => exact ⟨trivial, 3, by omega, by go_num, hstep _ HN.out (by simpa using hx)⟩
          case measure => simp [intOf]
      · by_cases hx : x = 8
        · subst hx
          go_wp2
          go_ret2
          exact ⟨⟨_, rfl⟩, rfl⟩
        · go_wp2_with fail
          go_roundw
          case rel => exact ⟨trivial, 4, by omega, by go_num, hstep _ HN.out (by simpa using hx)⟩
          case measure => simp [intOf]
    · have e : k = 4 := by omega
      subst e
      have HX : Hid (codeE x = 2) := by
        show codeE x = 2
        have a0 := HN.out 0 (by omega)
        have a1 := HN.out 1 (by omega)
        have a2 := HN.out 2 (by omega)
        have a3 := HN.out 3 (by omega)
        simp at a0 a1 a2 a3
        simp [codeE, isW, a0, a1, a2, a3]
      go_wp2
      go_ret2
      exact ⟨⟨0, by rw [HX.out]; rfl⟩, rfl⟩
end Go.Proofs.Ytajpbclcfjljnaa

/-
  Plain: what the buffer's calls make of contents and error; what a call may turn, joined.
-/
namespace Go.Proofs.Ytajpbclcfjljnaa
open Go Go.ChangeShapes Go.WideShapes Go.ChangeAt Go.RowKit Go.Joins
set_option linter.unusedVariables false
set_option linter.unusedSimpArgs false
abbrev St := List UInt8 × Int
def zeros (n : Nat) : List UInt8 := List.replicate n 0
def padN (l : List UInt8) (x : Int) : Nat := ((x - (l.length : Int) % x) % x).toNat
def digB (n : Nat) (u : Nat) : List UInt8 := (List.range n).map fun i => UInt8.ofNat (u / 256 ^ i % 256)
def fitU (x : Int) (u : Int) : Bool := decide (u < 2 ^ (8 * x.toNat))
def putS (most : Int) (y : List UInt8) (s : St) : St := (putL s.1 y most s.2, putE s.1 y most s.2)
def failP (x : Int) (s : St) : St := (s.1, failS s.2 x)
def cutS (n : Int) (s : St) : St := (cutL s.1 n s.2, cutE s.1 n s.2)
def alignS (most x : Int) (s : St) : St := if isW x then putS most (zeros (padN s.1 x)) s else failP 2 s
def numS (most x u : Int) (s : St) : St := if isW x then (if fitU x u then putS most (digB x.toNat u.toNat) s else failP 10 s) else failP 2 s
theorem isW_cases {x : Int} (h : isW x = true) : x = 1 ∨ x = 2 ∨ x = 4 ∨ x = 8 := by
  simp [isW] at h; omega
theorem length_zeros (n : Nat) : (zeros n).length = n := by simp [zeros]
theorem length_digB (n u : Nat) : (digB n u).length = n := by simp [digB]
theorem padN_lt {l : List UInt8} {x : Int} (h : isW x = true) : (padN l x : Int) < x ∧ (padN l x : Int) = (x - (l.length : Int) % x) % x := by
  unfold padN
  rcases isW_cases h with rfl | rfl | rfl | rfl <;> omega
theorem putS_le {most : Int} {y : List UInt8} {s : St} (h : (s.1.length : Int) ≤ most) : ((putS most y s).1.length : Int) ≤ most := by
  unfold putS putL
  dsimp only
  split
  · rename_i hh; rw [List.length_append]; omega
  · exact h
theorem cutS_le {most n : Int} {s : St} (h : (s.1.length : Int) ≤ most) : ((cutS n s).1.length : Int) ≤ most := by
  unfold cutS cutL
  dsimp only
  split
  · rw [List.length_take]; omega
  · exact h
theorem alignS_le {most x : Int} {s : St} (h : (s.1.length : Int) ≤ most) : ((alignS most x s).1.length : Int) ≤ most := by
  unfold alignS
  split
  · exact putS_le h
  · exact h
theorem numS_le {most x u : Int} {s : St} (h : (s.1.length : Int) ≤ most) : ((numS most x u s).1.length : Int) ≤ most := by
  unfold numS
  split
  · split
    · exact putS_le h
    · exact h
  · exact h
theorem moved_at (w : World) (g k : Nat) (v : Value) : Moved (fun j => j = g) w (w.setCell ⟨g, k, none⟩ v) := Moved.setCell (p := ⟨g, k, none⟩) (Moved.refl (fun j => j = g) w) (fun _ => rfl) v
def TurnB (B : Nat) (w w' : World) (p : Nat) (o : Option Nat) (most : Int) (s : St) : Prop := ∃ o', BufAt B w' p o' s.1 most s.2 ∧ Next w o o' ∧ Moved (Own2 p o) w w'
section
variable {B : Nat} {w w1 w2 : World} {p : Nat} {o : Option Nat} {most : Int} {s s1 s2 : St}
theorem TurnB.refl (h : BufAt B w p o s.1 most s.2) : TurnB B w w p o most s := ⟨o, h, Next.refl _ _, Moved.refl _ _⟩
theorem TurnB.after (hg : Grew w w1) (h : TurnB B w1 w2 p o most s) : TurnB B w w2 p o most s := by
  obtain ⟨o', h1, h2, h3⟩ := h
  exact ⟨o', h1, h2.earlier hg.size, (Moved.of_grew (S := Own2 p o) hg).trans' h3⟩
theorem TurnB.grew (h : TurnB B w w1 p o most s) (hg : Grew w1 w2) : TurnB B w w2 p o most s := by
  obtain ⟨o', h1, h2, h3⟩ := h
  exact ⟨o', h1.grew hg, h2, h3.grew hg⟩
theorem TurnB.trans (h : TurnB B w w1 p o most s1) (k : ∀ o1, BufAt B w1 p o1 s1.1 most s1.2 → TurnB B w1 w2 p o1 most s2) : TurnB B w w2 p o most s2 := by
  obtain ⟨o1, h1, h2, h3⟩ := h
  obtain ⟨o2, k1, k2, k3⟩ := k o1 h1
  exact ⟨o2, k1, h2.trans k2 h3.size, h3.own h2 k3⟩
end
theorem putT {sv : Value} {x : List UInt8} {B : Nat} {w : World} {p : Nat} {o : Option Nat} {most : Int} (s : St) (h : BufAt B w p o s.1 most s.2) (hB : B ≤ w.heap.size) (hl : (s.1.length : Int) ≤ most) (hm1 : most ≤ 1048576) (hx : BytesAt w sv x) (hxl : x.length ≤ 9223372036854775807) :
    Calls Try.prog 40 #[bptr p, sv] w fun r w' => r = .returned (.tuple #[]) ∧ TurnB B w w' p o most (putS most x s) :=
  (put_any sv x h hB (by omega) (by omega) hm1 hx hxl).mono fun r w' ⟨hr, o', h1, h2, h3⟩ => ⟨hr, o', h1, h2, h3⟩
theorem failT {B : Nat} {w : World} {p : Nat} {o : Option Nat} {most : Int} (s : St) (x : Int) (h : BufAt B w p o s.1 most s.2) :
    Calls Try.prog 39 #[bptr p, .int .i64 x] w fun r w' => r = .returned (.tuple #[]) ∧ TurnB B w w' p o most (failP x s) :=
  (fail_any x h).mono fun r w' ⟨hr, h1, h2⟩ => ⟨hr, o, h1, Next.refl _ _, h2⟩
theorem code_yes (x : Int) (w : World) (h : isW x = true) :
    Calls Try.prog 45 #[.int .i64 x] w fun r w' => (∃ c, r = .returned (.tuple #[.int .i64 c, .int .i64 0])) ∧ w' = w :=
  (code_any x w).mono fun r w' ⟨⟨c, hc⟩, hw⟩ => ⟨⟨c, by rw [hc, codeE, if_pos h]⟩, hw⟩
theorem code_no (x : Int) (w : World) (h : isW x = false) :
    Calls Try.prog 45 #[.int .i64 x] w fun r w' => (∃ c, r = .returned (.tuple #[.int .i64 c, .int .i64 2])) ∧ w' = w :=
  (code_any x w).mono fun r w' ⟨⟨c, hc⟩, hw⟩ => ⟨⟨c, by rw [hc, codeE, if_neg (by simp [h])]⟩, hw⟩
theorem with_any {B : Nat} {w : World} {p : Nat} {o : Option Nat} {most : Int} (s : St) (x : Int) (k : Nat) (cap : Array Value) (h : BufAt B w p o s.1 most s.2) (s' : St) (hf : isW x = false → s' = failP 2 s) (he : ∀ w, (callFunc k cap).run Try.prog w = .ok (.enter k cap) w)
    (hdo : isW x = true → Calls Try.prog k cap w fun r w' => r = .returned (.tuple #[]) ∧ TurnB B w w' p o most s') :
    Calls Try.prog 51 #[bptr p, .int .i64 x, .func (.func k) #[] cap] w fun r w' => r = .returned (.tuple #[]) ∧ TurnB B w w' p o most s' := by
  have HB := Lib.hid h
  have HD := Lib.hid hdo
  have HF := Lib.hid hf
  clear h hdo hf
  go_enter Try.func51, Try.ntmps51
  by_cases hx : isW x = true
  · have HX := Lib.hid hx
    clear hx
    go_wp2_with fail
    refine (code_yes x _ HX.out).mono ?_
    rintro r w' ⟨⟨c, rfl⟩, rfl⟩
    go_wp2_with fail
    refine (HD.out HX.out).mono ?_
    rintro r w2 ⟨rfl, ht⟩
    have HT := Lib.hid ht
    clear ht
    go_wp2
    go_end0
    exact ⟨rfl, HT.out⟩
  · have HX := Lib.hid (show isW x = false by simpa using hx)
    clear hx
    go_wp2_with fail
    refine (code_no x _ HX.out).mono ?_
    rintro r w' ⟨⟨c, rfl⟩, rfl⟩
    go_wp2_with fail
    refine (failT s 2 HB.out).mono ?_
    rintro r w2 ⟨rfl, ht⟩
    have HT := Lib.hid ht
    clear ht
    go_wp2
    refine bodyPost_ret (results_none rfl _ _ _) rfl ?_
    exact ⟨rfl, by rw [HF.out HX.out]; exact HT.out⟩
end Go.Proofs.Ytajpbclcfjljnaa
