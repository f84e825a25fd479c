/-
  Two buffers beside each other: two of the program, or the program's and the reference's.
-/
import Derived.Test.YtejaklkageieoaaBufFine
namespace Go.Proofs.Ytejaklkageieoaa
open Go Go.ChangeShapes Go.WideShapes Go.ChangeAt Go.RowKit Go.Joins
set_option linter.unusedVariables false
set_option linter.unusedSimpArgs false

def Apart (p : Nat) (o : Option Nat) (q : Nat) (o' : Option Nat) : Prop := ∀ k, Own2 p o k → ¬ Own2 q o' k
theorem Apart.next1 {w : World} {p q : Nat} {o o1 o' : Option Nat} (h : Apart p o q o') (hn : Next w o o1) (hlt : ∀ k, Own2 q o' k → k < w.heap.size) : Apart p o1 q o' := by
  intro k hk hq
  rcases hk with rfl | hk
  · exact h k (.inl rfl) hq
  · rcases hn k hk.symm with h1 | h1
    · exact h k (.inr h1.symm) hq
    · have := hlt k hq; omega
theorem Apart.symm {p q : Nat} {o o' : Option Nat} (h : Apart p o q o') : Apart q o' p o := fun k h1 h2 => h k h2 h1

def LiveBB (w0 w : World) (p q : Nat) (most most' : Int) (s t : St) : Prop := ∃ o o', BufAt w0.heap.size w p o s.1 most s.2 ∧ BufAt w0.heap.size w q o' t.1 most' t.2 ∧ Apart p o q o' ∧ Below w0.heap.size w0 w ∧ ((s.1.length : Int) ≤ most ∧ most ≤ 1048576) ∧ (t.1.length : Int) ≤ most' ∧ most' ≤ 1048576
section
variable {w0 w w' : World} {p q : Nat} {o o' : Option Nat} {most most' : Int} {s t s' t' : St}
theorem LiveBB.below (h : LiveBB w0 w p q most most' s t) : Below w0.heap.size w0 w := by obtain ⟨_, _, _, _, _, h, _⟩ := h; exact h
theorem LiveBB.grew (h : LiveBB w0 w p q most most' s t) (hg : Grew w w') : LiveBB w0 w' p q most most' s t := by
  obtain ⟨o, o', h1, h2, h3, h4, h5⟩ := h
  exact ⟨o, o', h1.grew hg, h2.grew hg, h3, Below.trans h4 (Below.mono hg h4.size), h5⟩
theorem LiveBB.one (h : LiveBB w0 w p q most most' s t) : Live w0 w p most s := by
  obtain ⟨o, o', h1, h2, h3, h4, h5, h6⟩ := h
  exact ⟨o, h1, h4, h5⟩
theorem LiveBB.step1 (h1 : BufAt w0.heap.size w p o s.1 most s.2) (h2 : BufAt w0.heap.size w q o' t.1 most' t.2) (h3 : Apart p o q o') (h4 : Below w0.heap.size w0 w) (ht : TurnB w0.heap.size w w' p o most s') (hl : (s'.1.length : Int) ≤ most ∧ most ≤ 1048576) (hl' : (t.1.length : Int) ≤ most' ∧ most' ≤ 1048576) : LiveBB w0 w' p q most most' s' t := by
  obtain ⟨o1, t1, t2, t3⟩ := ht
  exact ⟨o1, o', t1, h2.kept t3 (fun h => h3 q h (.inl rfl)) (fun k hk h => h3 k h (.inr hk.symm)), h3.next1 t2 h2.lt, Below.trans h4 (t3.below h4.size h1.ge), hl, hl'⟩
theorem LiveBB.step2 (h1 : BufAt w0.heap.size w p o s.1 most s.2) (h2 : BufAt w0.heap.size w q o' t.1 most' t.2) (h3 : Apart p o q o') (h4 : Below w0.heap.size w0 w) (ht : TurnB w0.heap.size w w' q o' most' t') (hl : (s.1.length : Int) ≤ most ∧ most ≤ 1048576) (hl' : (t'.1.length : Int) ≤ most' ∧ most' ≤ 1048576) : LiveBB w0 w' p q most most' s t' := by
  obtain ⟨o1, t1, t2, t3⟩ := ht
  exact ⟨o, o1, h1.kept t3 (fun h => h3 p (.inl rfl) h) (fun k hk h => h3 k (.inr hk.symm) h), t1, (h3.symm.next1 t2 h1.lt).symm, Below.trans h4 (t3.below h4.size h2.ge), hl, hl'⟩
theorem LiveBB.spoil {wa wb : World} (h : LiveBB w0 wa p q most most' s t) (hg : Grew wa wb) (hm : Moved (fun k => wa.heap.size ≤ k) wb w') : LiveBB w0 w' p q most most' s t := by
  obtain ⟨o, o', h1, h2, h3, h4, h5⟩ := h
  have b1 := h1.lt
  have b2 := h2.lt
  refine ⟨o, o', (h1.grew hg).kept hm (fun h => by have := b1 p (.inl rfl); omega) (fun k hk h => by have := b1 k (.inr hk.symm); omega), (h2.grew hg).kept hm (fun h => by have := b2 q (.inl rfl); omega) (fun k hk h => by have := b2 k (.inr hk.symm); omega), h3, ?_, h5⟩
  have h6 : Below w0.heap.size w0 wb := Below.trans h4 (Below.mono hg h4.size)
  exact Below.trans h6 (hm.below h6.size (fun k hk => Nat.le_trans h4.size hk))
theorem doesBB (d : DoV) (hd : d.ok) (h : LiveBB w0 w p q most most' s t) : Calls Try.prog 11 #[bptr p, doV d] w fun r w' => r = .returned (.tuple #[]) ∧ LiveBB w0 w' p q most most' (doS most d s) t := by
  obtain ⟨o, o', h1, h2, h3, h4, h5, h6⟩ := h
  exact (does_any s d hd h1 h4.size h5.1 h5.2).mono fun r w' ⟨hr, ht⟩ => ⟨hr, LiveBB.step1 h1 h2 h3 h4 ht ⟨doS_le h5.1, h5.2⟩ h6⟩
theorem fineBB1 (d : DoV) (hd : d.ok) (h : LiveBB w0 w p q most most' s t) : Calls Try.prog 20 #[bptr p, doV d] w fun r w' => r = .returned (.tuple #[]) ∧ LiveBB w0 w' p q most most' (fineS most d s) t := by
  obtain ⟨o, o', h1, h2, h3, h4, h5, h6⟩ := h
  exact (fine_any s d hd h1 h4.size h5.1 h5.2).mono fun r w' ⟨hr, ht⟩ => ⟨hr, LiveBB.step1 h1 h2 h3 h4 ht ⟨fineS_le h5.1, h5.2⟩ h6⟩
theorem alignBB1 (x : Int) (h : LiveBB w0 w p q most most' s t) : Calls Try.prog 25 #[bptr p, .int .i64 x] w fun r w' => r = .returned (.tuple #[]) ∧ LiveBB w0 w' p q most most' (alignS most x s) t := by
  obtain ⟨o, o', h1, h2, h3, h4, h5, h6⟩ := h
  exact (align_any s x h1 h4.size h5.1 h5.2).mono fun r w' ⟨hr, ht⟩ => ⟨hr, LiveBB.step1 h1 h2 h3 h4 ht ⟨alignS_le h5.1, h5.2⟩ h6⟩
theorem bytesBB1 (h : LiveBB w0 w p q most most' s t) : Calls Try.prog 13 #[bptr p] w fun r w' => ∃ v', r = .returned (.tuple #[v', .int .i64 s.2]) ∧ BytesAt w' v' (outS s) ∧ w'.ownsRow w.heap.size 5 1 v' (outS s).length (Lib.byteCells (outS s)) ∧ Grew w w' := by
  obtain ⟨o, o', h1, h2, h3, h4, h5, h6⟩ := h
  exact bytesB h1 h5.1 h5.2
end

def LiveBR (w0 w : World) (p q : Nat) (most most' : Int) (s t : St) : Prop := ∃ o o', BufAt w0.heap.size w p o s.1 most s.2 ∧ RefAt w0.heap.size w q o' t.1 most' t.2 ∧ Apart p o q o' ∧ Below w0.heap.size w0 w ∧ ((s.1.length : Int) ≤ most ∧ most ≤ 1048576) ∧ (t.1.length : Int) ≤ most' ∧ most' ≤ 1048576
section
variable {w0 w w' : World} {p q : Nat} {o o' : Option Nat} {most most' : Int} {s t s' t' : St}
theorem LiveBR.below (h : LiveBR w0 w p q most most' s t) : Below w0.heap.size w0 w := by obtain ⟨_, _, _, _, _, h, _⟩ := h; exact h
theorem LiveBR.grew (h : LiveBR w0 w p q most most' s t) (hg : Grew w w') : LiveBR w0 w' p q most most' s t := by
  obtain ⟨o, o', h1, h2, h3, h4, h5⟩ := h
  exact ⟨o, o', h1.grew hg, h2.grew hg, h3, Below.trans h4 (Below.mono hg h4.size), h5⟩
theorem LiveBR.one (h : LiveBR w0 w p q most most' s t) : Live w0 w p most s := by
  obtain ⟨o, o', h1, h2, h3, h4, h5, h6⟩ := h
  exact ⟨o, h1, h4, h5⟩
theorem LiveBR.step1 (h1 : BufAt w0.heap.size w p o s.1 most s.2) (h2 : RefAt w0.heap.size w q o' t.1 most' t.2) (h3 : Apart p o q o') (h4 : Below w0.heap.size w0 w) (ht : TurnB w0.heap.size w w' p o most s') (hl : (s'.1.length : Int) ≤ most ∧ most ≤ 1048576) (hl' : (t.1.length : Int) ≤ most' ∧ most' ≤ 1048576) : LiveBR w0 w' p q most most' s' t := by
  obtain ⟨o1, t1, t2, t3⟩ := ht
  exact ⟨o1, o', t1, h2.kept t3 (fun h => h3 q h (.inl rfl)) (fun k hk h => h3 k h (.inr hk.symm)), h3.next1 t2 h2.lt, Below.trans h4 (t3.below h4.size h1.ge), hl, hl'⟩
theorem LiveBR.step2 (h1 : BufAt w0.heap.size w p o s.1 most s.2) (h2 : RefAt w0.heap.size w q o' t.1 most' t.2) (h3 : Apart p o q o') (h4 : Below w0.heap.size w0 w) (ht : TurnR w0.heap.size w w' q o' most' t') (hl : (s.1.length : Int) ≤ most ∧ most ≤ 1048576) (hl' : (t'.1.length : Int) ≤ most' ∧ most' ≤ 1048576) : LiveBR w0 w' p q most most' s t' := by
  obtain ⟨o1, t1, t2, t3⟩ := ht
  exact ⟨o, o1, h1.kept t3 (fun h => h3 p (.inl rfl) h) (fun k hk h => h3 k (.inr hk.symm) h), t1, (h3.symm.next1 t2 h1.lt).symm, Below.trans h4 (t3.below h4.size h2.ge), hl, hl'⟩
theorem LiveBR.spoil {wa wb : World} (h : LiveBR w0 wa p q most most' s t) (hg : Grew wa wb) (hm : Moved (fun k => wa.heap.size ≤ k) wb w') : LiveBR w0 w' p q most most' s t := by
  obtain ⟨o, o', h1, h2, h3, h4, h5⟩ := h
  have b1 := h1.lt
  have b2 := h2.lt
  refine ⟨o, o', (h1.grew hg).kept hm (fun h => by have := b1 p (.inl rfl); omega) (fun k hk h => by have := b1 k (.inr hk.symm); omega), (h2.grew hg).kept hm (fun h => by have := b2 q (.inl rfl); omega) (fun k hk h => by have := b2 k (.inr hk.symm); omega), h3, ?_, h5⟩
  have h6 : Below w0.heap.size w0 wb := Below.trans h4 (Below.mono hg h4.size)
  exact Below.trans h6 (hm.below h6.size (fun k hk => Nat.le_trans h4.size hk))
theorem doesBR (d : DoV) (hd : d.ok) (h : LiveBR w0 w p q most most' s t) : Calls Try.prog 11 #[bptr p, doV d] w fun r w' => r = .returned (.tuple #[]) ∧ LiveBR w0 w' p q most most' (doS most d s) t := by
  obtain ⟨o, o', h1, h2, h3, h4, h5, h6⟩ := h
  exact (does_any s d hd h1 h4.size h5.1 h5.2).mono fun r w' ⟨hr, ht⟩ => ⟨hr, LiveBR.step1 h1 h2 h3 h4 ht ⟨doS_le h5.1, h5.2⟩ h6⟩
theorem fineBR1 (d : DoV) (hd : d.ok) (h : LiveBR w0 w p q most most' s t) : Calls Try.prog 20 #[bptr p, doV d] w fun r w' => r = .returned (.tuple #[]) ∧ LiveBR w0 w' p q most most' (fineS most d s) t := by
  obtain ⟨o, o', h1, h2, h3, h4, h5, h6⟩ := h
  exact (fine_any s d hd h1 h4.size h5.1 h5.2).mono fun r w' ⟨hr, ht⟩ => ⟨hr, LiveBR.step1 h1 h2 h3 h4 ht ⟨fineS_le h5.1, h5.2⟩ h6⟩
theorem alignBR1 (x : Int) (h : LiveBR w0 w p q most most' s t) : Calls Try.prog 25 #[bptr p, .int .i64 x] w fun r w' => r = .returned (.tuple #[]) ∧ LiveBR w0 w' p q most most' (alignS most x s) t := by
  obtain ⟨o, o', h1, h2, h3, h4, h5, h6⟩ := h
  exact (align_any s x h1 h4.size h5.1 h5.2).mono fun r w' ⟨hr, ht⟩ => ⟨hr, LiveBR.step1 h1 h2 h3 h4 ht ⟨alignS_le h5.1, h5.2⟩ h6⟩
theorem bytesBR1 (h : LiveBR w0 w p q most most' s t) : Calls Try.prog 13 #[bptr p] w fun r w' => ∃ v', r = .returned (.tuple #[v', .int .i64 s.2]) ∧ BytesAt w' v' (outS s) ∧ w'.ownsRow w.heap.size 5 1 v' (outS s).length (Lib.byteCells (outS s)) ∧ Grew w w' := by
  obtain ⟨o, o', h1, h2, h3, h4, h5, h6⟩ := h
  exact bytesB h1 h5.1 h5.2
end

section
variable {w0 w w' : World} {p q : Nat} {o o' : Option Nat} {most most' : Int} {s t s' t' : St}
theorem own_BR (d : DoV) (hd : d.ok) (h : LiveBR w0 w p q most most' s t) : Calls Try.prog 12 #[bptr q, doV d] w fun r w' => r = .returned (.tuple #[]) ∧ LiveBR w0 w' p q most most' s (doS most' d t) := by
  obtain ⟨o, o', h1, h2, h3, h4, h5, h6⟩ := h
  exact (own_any t d hd h2 h4.size h6.1 h6.2).mono fun r w' ⟨hr, ht⟩ => ⟨hr, LiveBR.step2 h1 h2 h3 h4 ht h5 ⟨doS_le h6.1, h6.2⟩⟩
theorem bytesBR2 (h : LiveBR w0 w p q most most' s t) : Calls Try.prog 14 #[bptr q] w fun r w' => ∃ v', r = .returned (.tuple #[v', .int .i64 t.2]) ∧ BytesAt w' v' (outS t) ∧ Grew w w' := by
  obtain ⟨o, o', h1, h2, h3, h4, h5, h6⟩ := h
  exact (rbytes_any h2 (by omega)).mono fun r w' ⟨v', hr, ho, hg⟩ => ⟨v', hr, BytesAt.of_own ho, hg⟩
theorem LiveBR.cells (h : LiveBR w0 w p q most most' s t) : ∃ a c, w.cell? ⟨q, 0, none⟩ = some (.slice a t.1.length c) ∧ w.cell? ⟨q, 2, none⟩ = some (.int .i64 t.2) := by
  obtain ⟨o, o', h1, h2, h3, h4, h5, h6⟩ := h
  obtain ⟨_, v, k1, k2, _⟩ := h2
  obtain ⟨c0, c1, c2⟩ := three_cells k1
  obtain ⟨a, c, rfl, _, _⟩ := row_form k2
  exact ⟨a, c, c0, c2⟩
theorem LiveBB.swap (h : LiveBB w0 w p q most most' s t) : LiveBB w0 w q p most' most t s := by
  obtain ⟨o, o', h1, h2, h3, h4, h5, h6⟩ := h
  exact ⟨o', o, h2, h1, h3.symm, h4, h6, h5⟩
theorem LiveBB.two (h : LiveBB w0 w p q most most' s t) : Live w0 w q most' t := h.swap.one
theorem fineBB2 (d : DoV) (hd : d.ok) (h : LiveBB w0 w p q most most' s t) : Calls Try.prog 20 #[bptr q, doV d] w fun r w' => r = .returned (.tuple #[]) ∧ LiveBB w0 w' p q most most' s (fineS most' d t) :=
  (fineBB1 d hd h.swap).mono fun r w' ⟨hr, h⟩ => ⟨hr, h.swap⟩
theorem bytesBB2 (h : LiveBB w0 w p q most most' s t) : Calls Try.prog 13 #[bptr q] w fun r w' => ∃ v', r = .returned (.tuple #[v', .int .i64 t.2]) ∧ BytesAt w' v' (outS t) ∧ w'.ownsRow w.heap.size 5 1 v' (outS t).length (Lib.byteCells (outS t)) ∧ Grew w w' := bytesBB1 h.swap
theorem cutBB1 (n : Int) (h : LiveBB w0 w p q most most' s t) : Calls Try.prog 22 #[bptr p, .int .i64 n] w fun r w' => r = .returned (.tuple #[]) ∧ LiveBB w0 w' p q most most' (cutS n s) t := by
  obtain ⟨o, o', h1, h2, h3, h4, h5, h6⟩ := h
  exact (cutT s n h1).mono fun r w' ⟨hr, ht⟩ => ⟨hr, LiveBB.step1 h1 h2 h3 h4 ht ⟨cutS_le h5.1, h5.2⟩ h6⟩
theorem cutBB2 (n : Int) (h : LiveBB w0 w p q most most' s t) : Calls Try.prog 22 #[bptr q, .int .i64 n] w fun r w' => r = .returned (.tuple #[]) ∧ LiveBB w0 w' p q most most' s (cutS n t) :=
  (cutBB1 n h.swap).mono fun r w' ⟨hr, h⟩ => ⟨hr, h.swap⟩
theorem hasBB1 (h : LiveBB w0 w p q most most' s t) (e : Int) (want : ByteArray) (h1 : s.2 = e) (h2 : outS s = want.data.toList) :
    Calls Try.prog 27 #[bptr p, .int .i64 e, .string want] w fun r w' => r = .returned (.bool true) ∧ LiveBB w0 w' p q most most' s t :=
  (has_yesG h.one e want h1 h2).mono fun r w' ⟨hr, hg⟩ => ⟨hr, h.grew hg⟩
theorem hasBB2 (h : LiveBB w0 w p q most most' s t) (e : Int) (want : ByteArray) (h1 : t.2 = e) (h2 : outS t = want.data.toList) :
    Calls Try.prog 27 #[bptr q, .int .i64 e, .string want] w fun r w' => r = .returned (.bool true) ∧ LiveBB w0 w' p q most most' s t :=
  (has_yesG h.two e want h1 h2).mono fun r w' ⟨hr, hg⟩ => ⟨hr, h.grew hg⟩
theorem new2 (m : Int) (h : Live w0 w p most s) : Calls Try.prog 9 #[.int .i64 m] w fun r w' => r = .returned (bptr w.heap.size) ∧ LiveBB w0 w' p w.heap.size most (roomOf m) s ([], 0) := by
  obtain ⟨o, h1, h2, h3, h4⟩ := h
  refine (new_any m w).mono fun r w' ⟨hr, k1, k2, k3⟩ => ⟨hr, ?_⟩
  obtain ⟨g1, v, g2, g3, g4, g5⟩ := k1
  refine ⟨o, none, h1.grew k2, ⟨h2.size, v, g2, own_base g3 h2.size, g4, g5⟩, ?_, Below.trans h2 (Below.mono k2 h2.size), ⟨h3, h4⟩, by unfold roomOf; simp; omega, by unfold roomOf; omega⟩
  intro k hk hq
  have := h1.lt k hk
  rcases hq with rfl | hq
  · omega
  · cases hq
theorem rnew2 (m : Int) (h : Live w0 w p most s) : Calls Try.prog 10 #[.int .i64 m] w fun r w' => r = .returned (bptr w.heap.size) ∧ LiveBR w0 w' p w.heap.size most (roomOf m) s ([], 0) := by
  obtain ⟨o, h1, h2, h3, h4⟩ := h
  refine (rnew_any m w).mono fun r w' ⟨hr, k1, k2, k3⟩ => ⟨hr, ?_⟩
  obtain ⟨g1, v, g2, g3, g4, g5⟩ := k1
  refine ⟨o, none, h1.grew k2, ⟨h2.size, v, g2, own_base g3 h2.size, g4, g5⟩, ?_, Below.trans h2 (Below.mono k2 h2.size), ⟨h3, h4⟩, by unfold roomOf; simp; omega, by unfold roomOf; omega⟩
  intro k hk hq
  have := h1.lt k hk
  rcases hq with rfl | hq
  · omega
  · cases hq
end
end Go.Proofs.Ytejaklkageieoaa
