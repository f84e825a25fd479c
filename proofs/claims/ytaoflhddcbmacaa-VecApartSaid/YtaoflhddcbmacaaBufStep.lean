/-
  Plain: what the buffer's calls make of contents and error; what a call may turn, joined.
-/
import Derived.Test.YtaoflhddcbmacaaBufWidth
import Derived.Test.YtaoflhddcbmacaaRegionL
namespace Go.Proofs.Ytaoflhddcbmacaa
open Go Go.ChangeShapes Go.WideShapes Go.ChangeAt Go.RowKit Go.Joins
set_option linter.unusedVariables false
set_option linter.unusedSimpArgs false

abbrev St := List UInt8 × Int
def zeros (n : Nat) : List UInt8 := List.replicate n 0
def padN (l : List UInt8) (x : Int) : Nat := ((x - (l.length : Int) % x) % x).toNat
def digB (n : Nat) (u : Nat) : List UInt8 := (List.range n).map fun i => UInt8.ofNat (u / 256 ^ i % 256)
def fitU (x : Int) (u : Int) : Bool := decide (u < 2 ^ (8 * x.toNat))
def putS (most : Int) (y : List UInt8) (s : St) : St := (putL s.1 y most s.2, putE s.1 y most s.2)
def failP (x : Int) (s : St) : St := (s.1, failS s.2 x)
def cutS (n : Int) (s : St) : St := (cutL s.1 n s.2, cutE s.1 n s.2)
def alignS (most x : Int) (s : St) : St := if isW x then putS most (zeros (padN s.1 x)) s else failP 2 s
def numS (most x u : Int) (s : St) : St := if isW x then (if fitU x u then putS most (digB x.toNat u.toNat) s else failP 10 s) else failP 2 s

theorem isW_cases {x : Int} (h : isW x = true) : x = 1 ∨ x = 2 ∨ x = 4 ∨ x = 8 := by
  simp [isW] at h; omega
theorem length_zeros (n : Nat) : (zeros n).length = n := by simp [zeros]
theorem length_digB (n u : Nat) : (digB n u).length = n := by simp [digB]
theorem padN_lt {l : List UInt8} {x : Int} (h : isW x = true) : (padN l x : Int) < x ∧ (padN l x : Int) = (x - (l.length : Int) % x) % x := by
  unfold padN
  rcases isW_cases h with rfl | rfl | rfl | rfl <;> omega
theorem putS_le {most : Int} {y : List UInt8} {s : St} (h : (s.1.length : Int) ≤ most) : ((putS most y s).1.length : Int) ≤ most := by
  unfold putS putL
  dsimp only
  split
  · rename_i hh; rw [List.length_append]; omega
  · exact h
theorem cutS_le {most n : Int} {s : St} (h : (s.1.length : Int) ≤ most) : ((cutS n s).1.length : Int) ≤ most := by
  unfold cutS cutL
  dsimp only
  split
  · rw [List.length_take]; omega
  · exact h
theorem alignS_le {most x : Int} {s : St} (h : (s.1.length : Int) ≤ most) : ((alignS most x s).1.length : Int) ≤ most := by
  unfold alignS
  split
  · exact putS_le h
  · exact h
theorem numS_le {most x u : Int} {s : St} (h : (s.1.length : Int) ≤ most) : ((numS most x u s).1.length : Int) ≤ most := by
  unfold numS
  split
  · split
    · exact putS_le h
    · exact h
  · exact h

theorem moved_at (w : World) (g k : Nat) (v : Value) : Moved (fun j => j = g) w (w.setCell ⟨g, k, none⟩ v) := Moved.setCell (p := ⟨g, k, none⟩) (Moved.refl (fun j => j = g) w) (fun _ => rfl) v
/-- A call on the program's buffer: the buffer behind it. -/
def TurnB (B : Nat) (w w' : World) (p : Nat) (o : Option Nat) (most : Int) (s : St) : Prop := ∃ o', BufAt B w' p o' s.1 most s.2 ∧ Next w o o' ∧ Moved (Own2 p o) w w'
section
variable {B : Nat} {w w1 w2 : World} {p : Nat} {o : Option Nat} {most : Int} {s s1 s2 : St}
theorem TurnB.refl (h : BufAt B w p o s.1 most s.2) : TurnB B w w p o most s := ⟨o, h, Next.refl _ _, Moved.refl _ _⟩
theorem TurnB.after (hg : Grew w w1) (h : TurnB B w1 w2 p o most s) : TurnB B w w2 p o most s := by
  obtain ⟨o', h1, h2, h3⟩ := h
  exact ⟨o', h1, h2.earlier hg.size, (Moved.of_grew (S := Own2 p o) hg).trans' h3⟩
theorem TurnB.grew (h : TurnB B w w1 p o most s) (hg : Grew w1 w2) : TurnB B w w2 p o most s := by
  obtain ⟨o', h1, h2, h3⟩ := h
  exact ⟨o', h1.grew hg, h2, h3.grew hg⟩
theorem TurnB.trans (h : TurnB B w w1 p o most s1) (k : ∀ o1, BufAt B w1 p o1 s1.1 most s1.2 → TurnB B w1 w2 p o1 most s2) : TurnB B w w2 p o most s2 := by
  obtain ⟨o1, h1, h2, h3⟩ := h
  obtain ⟨o2, k1, k2, k3⟩ := k o1 h1
  exact ⟨o2, k1, h2.trans k2 h3.size, h3.own h2 k3⟩
end
theorem putT {sv : Value} {x : List UInt8} {B : Nat} {w : World} {p : Nat} {o : Option Nat} {most : Int} (s : St) (h : BufAt B w p o s.1 most s.2) (hB : B ≤ w.heap.size) (hl : (s.1.length : Int) ≤ most) (hm1 : most ≤ 1048576) (hx : BytesAt w sv x) (hxl : x.length ≤ 9223372036854775807) :
    Calls Try.prog 52 #[bptr p, sv] w fun r w' => r = .returned (.tuple #[]) ∧ TurnB B w w' p o most (putS most x s) :=
  (put_any sv x h hB (by omega) (by omega) hm1 hx hxl).mono fun r w' ⟨hr, o', h1, h2, h3⟩ => ⟨hr, o', h1, h2, h3⟩
theorem failT {B : Nat} {w : World} {p : Nat} {o : Option Nat} {most : Int} (s : St) (x : Int) (h : BufAt B w p o s.1 most s.2) :
    Calls Try.prog 55 #[bptr p, .int .i64 x] w fun r w' => r = .returned (.tuple #[]) ∧ TurnB B w w' p o most (failP x s) :=
  (fail_any x h).mono fun r w' ⟨hr, h1, h2⟩ => ⟨hr, o, h1, Next.refl _ _, h2⟩
theorem code_yes (x : Int) (w : World) (h : isW x = true) :
    Calls Try.prog 59 #[.int .i64 x] w fun r w' => (∃ c, r = .returned (.tuple #[.int .i64 c, .int .i64 0])) ∧ w' = w :=
  (code_any x w).mono fun r w' ⟨⟨c, hc⟩, hw⟩ => ⟨⟨c, by rw [hc, codeE, if_pos h]⟩, hw⟩
theorem code_no (x : Int) (w : World) (h : isW x = false) :
    Calls Try.prog 59 #[.int .i64 x] w fun r w' => (∃ c, r = .returned (.tuple #[.int .i64 c, .int .i64 2])) ∧ w' = w :=
  (code_any x w).mono fun r w' ⟨⟨c, hc⟩, hw⟩ => ⟨⟨c, by rw [hc, codeE, if_neg (by simp [h])]⟩, hw⟩

/-- with: the closure is called if x is a width. -/
theorem with_any {B : Nat} {w : World} {p : Nat} {o : Option Nat} {most : Int} (s : St) (x : Int) (k : Nat) (cap : Array Value) (h : BufAt B w p o s.1 most s.2) (s' : St) (hf : isW x = false → s' = failP 2 s) (he : ∀ w, (callFunc k cap).run Try.prog w = .ok (.enter k cap) w)
    (hdo : isW x = true → Calls Try.prog k cap w fun r w' => r = .returned (.tuple #[]) ∧ TurnB B w w' p o most s') :
    Calls Try.prog 50 #[bptr p, .int .i64 x, .func (.func k) #[] cap] w fun r w' => r = .returned (.tuple #[]) ∧ TurnB B w w' p o most s' := by
  have HB := Lib.hid h
  have HD := Lib.hid hdo
  have HF := Lib.hid hf
  clear h hdo hf
  go_enter Try.func50, Try.ntmps50
  by_cases hx : isW x = true
  · have HX := Lib.hid hx
    clear hx
    go_wp2_with fail
    refine (code_yes x _ HX.out).mono ?_
    rintro r w' ⟨⟨c, rfl⟩, rfl⟩
    go_wp2_with fail
    refine (HD.out HX.out).mono ?_
    rintro r w2 ⟨rfl, ht⟩
    have HT := Lib.hid ht
    clear ht
    go_wp2
    go_end0
    exact ⟨rfl, HT.out⟩
  · have HX := Lib.hid (show isW x = false by simpa using hx)
    clear hx
    go_wp2_with fail
    refine (code_no x _ HX.out).mono ?_
    rintro r w' ⟨⟨c, rfl⟩, rfl⟩
    go_wp2_with fail
    refine (failT s 2 HB.out).mono ?_
    rintro r w2 ⟨rfl, ht⟩
    have HT := Lib.hid ht
    clear ht
    go_wp2
    refine bodyPost_ret (results_none rfl _ _ _) rfl ?_
    exact ⟨rfl, by rw [HF.out HX.out]; exact HT.out⟩
end Go.Proofs.Ytaoflhddcbmacaa
