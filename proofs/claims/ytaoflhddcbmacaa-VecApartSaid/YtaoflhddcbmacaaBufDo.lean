/-
  The calls that the laws make: does, own, fine; a live buffer, alone or beside another.
-/
import Derived.Test.YtaoflhddcbmacaaBufText
import Derived.Test.YtaoflhddcbmacaaBufNum
namespace Go.Proofs.Ytaoflhddcbmacaa
open Go Go.ChangeShapes Go.WideShapes Go.ChangeAt Go.RowKit Go.Joins
set_option linter.unusedVariables false
set_option linter.unusedSimpArgs false

structure DoV where
  kind : Int
  w : Int
  n : Int
  u : Int
  s : ByteArray
abbrev DoV.cells (d : DoV) : List Value := [.int .i64 d.kind, .int .i64 d.w, .int .i64 d.n, .int .u64 d.u, .string d.s]
abbrev doV (d : DoV) : Value := .agg #[.int .i64 d.kind, .int .i64 d.w, .int .i64 d.n, .int .u64 d.u, .string d.s]
def DoV.ok (d : DoV) : Prop := 0 ≤ d.u ∧ d.u ≤ 18446744073709551615 ∧ d.s.size ≤ 9223372036854775807
def short40 (s : ByteArray) : ByteArray := s.extract 0 (min s.size 40)
theorem short40_size (s : ByteArray) : (short40 s).size ≤ 40 := by unfold short40; rw [ByteArray.size_extract]; omega
def letterX : ByteArray := ⟨#[120]⟩
def doS (most : Int) (d : DoV) (s : St) : St :=
  if d.kind % 5 = 0 then alignS most d.w s else if d.kind % 5 = 1 then numS most d.w d.u s else if d.kind % 5 = 2 then putS most (bytesS [short40 d.s]) s
  else if d.kind % 5 = 3 then cutS d.n s else putS most (bytesS [short40 d.s, letterX, short40 d.s]) s
theorem strs_new (w : World) (ss : List ByteArray) (t : TypeId) : StrsAt (w.alloc (.cells (ss.map Value.string).toArray t)) (.slice (some ⟨w.heap.size, 0, none⟩) ss.length ss.length) ss := by
  refine ⟨_, _, rfl, fun i s hs => ⟨_, _, rfl, ?_⟩⟩
  rw [cell_of_row _ _ _ _ _ _ (heap_alloc_new _ _), Nat.zero_add]
  simp [hs]
theorem BufAt.lt {B : Nat} {w : World} {p : Nat} {o : Option Nat} {l : List UInt8} {most e : Int} (h : BufAt B w p o l most e) : ∀ k, Own2 p o k → k < w.heap.size := by
  obtain ⟨_, v, h1, h2, h3, _⟩ := h
  intro k hk
  rcases hk with rfl | hk
  · exact (Array.getElem?_eq_some_iff.1 h1).1
  · exact (World.ownsRow.lt h2 k (by rw [h3, ← hk])).2
theorem BufAt.ge {B : Nat} {w : World} {p : Nat} {o : Option Nat} {l : List UInt8} {most e : Int} (h : BufAt B w p o l most e) : ∀ k, Own2 p o k → B ≤ k := by
  obtain ⟨h0, v, h1, h2, h3, _⟩ := h
  intro k hk
  rcases hk with rfl | hk
  · exact h0
  · exact (World.ownsRow.lt h2 k (by rw [h3, ← hk])).1
theorem hs3 {a : ByteArray} (h : a.size ≤ 40) : sizeS [a, letterX, a] ≤ 1073741824 := by
  have e : letterX.size = 1 := rfl
  simp [sizeS, e]; omega
/-- Text with a slice that was just built. -/
theorem textNew {B : Nat} {w : World} {p : Nat} {o : Option Nat} {most : Int} (s : St) (ss : List ByteArray) (h : BufAt B w p o s.1 most s.2) (hB : B ≤ w.heap.size) (hl : (s.1.length : Int) ≤ most) (hm1 : most ≤ 1048576)
    (hsl : ss.length ≤ 1048576) (hss : sizeS ss ≤ 1073741824) :
    Calls Try.prog 29 #[bptr p, .slice (some ⟨w.heap.size, 0, none⟩) ss.length ss.length] (w.alloc (.cells (ss.map Value.string).toArray 9)) fun r w' => r = .returned (.tuple #[]) ∧ TurnB B w w' p o most (putS most (bytesS ss) s) := by
  have hg := (Grew.refl w).alloc (.cells (ss.map Value.string).toArray 9)
  refine (text_any s _ ss (h.grew hg) (Nat.le_trans hB hg.size) hl hm1 (strs_new w ss _) hsl hss ?_).mono fun r w' ⟨hr, ht⟩ => ⟨hr, ht.after hg⟩
  intro ad n c he hk
  injection he with e1 _ _
  injection e1 with e1
  subst e1
  exact absurd (h.lt _ hk) (Nat.lt_irrefl _)
theorem textNew1 {B : Nat} {w : World} {p : Nat} {o : Option Nat} {most : Int} (s : St) (x : ByteArray) (k : Nat) (hk : k = w.heap.size) (h : BufAt B w p o s.1 most s.2) (hB : B ≤ w.heap.size) (hl : (s.1.length : Int) ≤ most) (hm1 : most ≤ 1048576)
    (hss : sizeS [x] ≤ 1073741824) :
    Calls Try.prog 29 #[bptr p, .slice (some ⟨k, 0, none⟩) 1 1] (w.alloc (.cells #[.string x] 9)) fun r w' => r = .returned (.tuple #[]) ∧ TurnB B w w' p o most (putS most (bytesS [x]) s) := by
  subst hk
  exact textNew s [x] h hB hl hm1 (by simp) hss
theorem textNew2 {B : Nat} {w : World} {p : Nat} {o : Option Nat} {most : Int} (s : St) (x y : ByteArray) (k : Nat) (hk : k = w.heap.size) (h : BufAt B w p o s.1 most s.2) (hB : B ≤ w.heap.size) (hl : (s.1.length : Int) ≤ most) (hm1 : most ≤ 1048576)
    (hss : sizeS [x, y] ≤ 1073741824) :
    Calls Try.prog 29 #[bptr p, .slice (some ⟨k, 0, none⟩) 2 2] (w.alloc (.cells #[.string x, .string y] 9)) fun r w' => r = .returned (.tuple #[]) ∧ TurnB B w w' p o most (putS most (bytesS [x, y]) s) := by
  subst hk
  exact textNew s [x, y] h hB hl hm1 (by simp) hss
theorem textNew3 {B : Nat} {w : World} {p : Nat} {o : Option Nat} {most : Int} (s : St) (x y z : ByteArray) (k : Nat) (hk : k = w.heap.size) (h : BufAt B w p o s.1 most s.2) (hB : B ≤ w.heap.size) (hl : (s.1.length : Int) ≤ most) (hm1 : most ≤ 1048576)
    (hss : sizeS [x, y, z] ≤ 1073741824) :
    Calls Try.prog 29 #[bptr p, .slice (some ⟨k, 0, none⟩) 3 3] (w.alloc (.cells #[.string x, .string y, .string z] 9)) fun r w' => r = .returned (.tuple #[]) ∧ TurnB B w w' p o most (putS most (bytesS [x, y, z]) s) := by
  subst hk
  exact textNew s [x, y, z] h hB hl hm1 (by simp) hss
theorem doS_le {most : Int} {d : DoV} {s : St} (h : (s.1.length : Int) ≤ most) : ((doS most d s).1.length : Int) ≤ most := by
  unfold doS
  repeat' split
  · exact alignS_le h
  · exact numS_le h
  · exact putS_le h
  · exact cutS_le h
  · exact putS_le h

/-- A buffer that came to be behind w0, and nothing that lay at w0 has turned. -/
def Live (w0 w : World) (p : Nat) (most : Int) (s : St) : Prop := ∃ o, BufAt w0.heap.size w p o s.1 most s.2 ∧ Below w0.heap.size w0 w ∧ (s.1.length : Int) ≤ most ∧ most ≤ 1048576
theorem Live.grew {w0 w w' : World} {p : Nat} {most : Int} {s : St} (h : Live w0 w p most s) (hg : Grew w w') : Live w0 w' p most s := by
  obtain ⟨o, h1, h2, h3, h4⟩ := h
  exact ⟨o, h1.grew hg, Below.trans h2 (Below.mono hg h2.size), h3, h4⟩
theorem Live.turn {w0 w w' : World} {p : Nat} {o : Option Nat} {most : Int} {s s' : St} (h : BufAt w0.heap.size w p o s.1 most s.2) (hb : Below w0.heap.size w0 w) (ht : TurnB w0.heap.size w w' p o most s') (hl : (s'.1.length : Int) ≤ most) (hm : most ≤ 1048576) : Live w0 w' p most s' := by
  obtain ⟨o', h1, h2, h3⟩ := ht
  exact ⟨o', h1, Below.trans hb (h3.below hb.size (h.ge)), hl, hm⟩
theorem Live.new {w0 w w' : World} {p : Nat} {most : Int} (hb : Below w0.heap.size w0 w) (h : BufAt w.heap.size w' p none [] most 0) (hg : Grew w w') (hm0 : 0 ≤ most) (hm : most ≤ 1048576) : Live w0 w' p most ([], 0) := by
  obtain ⟨h1, v, h2, h3, h4, h5⟩ := h
  exact ⟨none, ⟨Nat.le_trans hb.size h1, v, h2, own_base h3 hb.size, h4, h5⟩, Below.trans hb (Below.mono hg hb.size), by simpa using hm0, hm⟩
section
variable {w0 w : World} {p : Nat} {most : Int} {s : St}
theorem alignL (x : Int) (h : Live w0 w p most s) : Calls Try.prog 25 #[bptr p, .int .i64 x] w fun r w' => r = .returned (.tuple #[]) ∧ Live w0 w' p most (alignS most x s) := by
  obtain ⟨o, h1, h2, h3, h4⟩ := h
  exact (align_any s x h1 h2.size h3 h4).mono fun r w' ⟨hr, ht⟩ => ⟨hr, Live.turn h1 h2 ht (alignS_le h3) h4⟩
theorem numL (x u : Int) (h0 : 0 ≤ u) (hu : u ≤ 18446744073709551615) (h : Live w0 w p most s) : Calls Try.prog 26 #[bptr p, .int .i64 x, .int .u64 u] w fun r w' => r = .returned (.tuple #[]) ∧ Live w0 w' p most (numS most x u s) := by
  obtain ⟨o, h1, h2, h3, h4⟩ := h
  exact (num_any s x u h1 h2.size h3 h4 h0 hu).mono fun r w' ⟨hr, ht⟩ => ⟨hr, Live.turn h1 h2 ht (numS_le h3) h4⟩
theorem textL1 (x : ByteArray) (k : Nat) (hk : k = w.heap.size) (hss : sizeS [x] ≤ 1073741824) (h : Live w0 w p most s) : Calls Try.prog 29 #[bptr p, .slice (some ⟨k, 0, none⟩) 1 1] (w.alloc (.cells #[.string x] 9)) fun r w' => r = .returned (.tuple #[]) ∧ Live w0 w' p most (putS most (bytesS [x]) s) := by
  obtain ⟨o, h1, h2, h3, h4⟩ := h
  exact (textNew1 s x k hk h1 h2.size h3 h4 hss).mono fun r w' ⟨hr, ht⟩ => ⟨hr, Live.turn h1 h2 ht (putS_le h3) h4⟩
theorem textL2 (x y : ByteArray) (k : Nat) (hk : k = w.heap.size) (hss : sizeS [x, y] ≤ 1073741824) (h : Live w0 w p most s) : Calls Try.prog 29 #[bptr p, .slice (some ⟨k, 0, none⟩) 2 2] (w.alloc (.cells #[.string x, .string y] 9)) fun r w' => r = .returned (.tuple #[]) ∧ Live w0 w' p most (putS most (bytesS [x, y]) s) := by
  obtain ⟨o, h1, h2, h3, h4⟩ := h
  exact (textNew2 s x y k hk h1 h2.size h3 h4 hss).mono fun r w' ⟨hr, ht⟩ => ⟨hr, Live.turn h1 h2 ht (putS_le h3) h4⟩
theorem textL (ss : List ByteArray) (hsl : ss.length ≤ 1048576) (hss : sizeS ss ≤ 1073741824) (h : Live w0 w p most s) : Calls Try.prog 29 #[bptr p, .slice (some ⟨w.heap.size, 0, none⟩) ss.length ss.length] (w.alloc (.cells (ss.map Value.string).toArray 9)) fun r w' => r = .returned (.tuple #[]) ∧ Live w0 w' p most (putS most (bytesS ss) s) := by
  obtain ⟨o, h1, h2, h3, h4⟩ := h
  exact (textNew s ss h1 h2.size h3 h4 hsl hss).mono fun r w' ⟨hr, ht⟩ => ⟨hr, Live.turn h1 h2 ht (putS_le h3) h4⟩
theorem lenL (h : Live w0 w p most s) : Calls Try.prog 17 #[bptr p] w fun r w' => r = .returned (.int .i64 s.1.length) ∧ w' = w := by
  obtain ⟨o, h1, h2, h3, h4⟩ := h
  exact len_any h1
theorem errL (h : Live w0 w p most s) : Calls Try.prog 18 #[bptr p] w fun r w' => r = .returned (.int .i64 s.2) ∧ w' = w := by
  obtain ⟨o, h1, h2, h3, h4⟩ := h
  exact err_any h1
/-- What Bytes gives. -/
def outS (s : St) : List UInt8 := if s.2 = 0 then s.1 else []
theorem bytesB {B : Nat} {o : Option Nat} (h : BufAt B w p o s.1 most s.2) (h3 : (s.1.length : Int) ≤ most) (h4 : most ≤ 1048576) : Calls Try.prog 14 #[bptr p] w fun r w' => ∃ v', r = .returned (.tuple #[v', .int .i64 s.2]) ∧ BytesAt w' v' (outS s) ∧ w'.ownsRow w.heap.size 5 1 v' (outS s).length (Lib.byteCells (outS s)) ∧ Grew w w' :=
  (bytes_any h (by omega)).mono fun r w' ⟨v', hr, ho, hg⟩ => ⟨v', hr, BytesAt.of_own ho, ho, hg⟩
theorem bytesL (h : Live w0 w p most s) : Calls Try.prog 14 #[bptr p] w fun r w' => ∃ v', r = .returned (.tuple #[v', .int .i64 s.2]) ∧ BytesAt w' v' (outS s) ∧ w'.ownsRow w.heap.size 5 1 v' (outS s).length (Lib.byteCells (outS s)) ∧ Grew w w' := by
  obtain ⟨o, h1, h2, h3, h4⟩ := h
  exact bytesB h1 h3 h4
theorem newL (m : Int) (hb : Below w0.heap.size w0 w) : Calls Try.prog 28 #[.int .i64 m] w fun r w' => r = .returned (bptr w.heap.size) ∧ Live w0 w' w.heap.size (roomOf m) ([], 0) ∧ Grew w w' ∧ w.heap.size < w'.heap.size :=
  (new_any m w).mono fun r w' ⟨hr, h1, h2, h3⟩ => ⟨hr, Live.new hb h1 h2 (by unfold roomOf; omega) (by unfold roomOf; omega), h2, h3⟩
theorem Live.below (h : Live w0 w p most s) : Below w0.heap.size w0 w := h.choose_spec.2.1
end
end Go.Proofs.Ytaoflhddcbmacaa
