/-
  Texts of the proof, part 19 of 21.
-/
import Derived.Test.YtajpbclcfjljnaaPAQ
import Derived.Deep.Slices
import Derived.Deep.Fields
import Derived.ChangeSame
import Derived.Test.YtajpbclcfjljnaaPAR

/-
  How the laws' arguments read: a slice of pairs, a slice of ints. Conditions: the argument can be read as data.
-/
namespace Go.Proofs.Ytajpbclcfjljnaa
open Go Go.ChangeShapes Go.WideShapes Go.ChangeAt Go.RowKit Go.Joins Go.Deep
set_option linter.unusedVariables false
set_option linter.unusedSimpArgs false
def okPair (x : Int × Int) : Prop := True
def PrsAt (w : World) (v : Value) (l : List (Int × Int)) : Prop :=
  ∃ a0 cap, v = .slice a0 l.length cap ∧ l.length ≤ cap ∧ ∀ (i : Nat) (x : (Int × Int)), l[i]? = some x → ∃ b off, a0 = some ⟨b, off, none⟩ ∧ w.cell? ⟨b, off + i * 2, none⟩ = some (.int .i64 x.1) ∧ w.cell? ⟨b, off + i * 2 + 1, none⟩ = some (.int .i64 x.2)
theorem PrsAt.kept {S : Nat → Prop} {w w' : World} {v : Value} {l : List (Int × Int)} (h : PrsAt w v l) (hg : Moved S w w') (hS : ∀ k, S k → w.heap.size ≤ k) : PrsAt w' v l := by
  obtain ⟨a0, cap, h1, h2, h3⟩ := h
  refine ⟨a0, cap, h1, h2, fun i x hx => ?_⟩
  obtain ⟨b, off, e, p⟩ := h3 i x hx
  have hb : b < w.heap.size := World.block_lt_of_cell? w ⟨b, off + i * 2, none⟩ p.1
  have hn : ¬ S b := fun hs => by have := hS b hs; omega
  exact ⟨b, off, e, hg.cell p.1 hn, hg.cell p.2 hn⟩
theorem PrsAt.below {B : Nat} {w w' : World} {v : Value} {l : List (Int × Int)} (h : PrsAt w v l) (hg : Below B w w') (hB : w.heap.size ≤ B) : PrsAt w' v l :=
  h.kept (S := fun k => B ≤ k) ⟨hg.os, hg.tape, hg.output, hg.size, fun k hk hs => hg.block k (by omega)⟩ (fun k hk => by omega)
theorem cells_Prs : Try.prog.cellsOf 51 = 2 := by kernel_rfl
set_option maxRecDepth 100000 in
theorem cells_Prs_int : Try.prog.cellsOf 3 = 1 := by kernel_rfl
set_option maxRecDepth 100000 in
theorem open_Prs {H : Type} {enc : TypeId × Value → H} {W : World} {base : Nat} {v : Value} {d : DataW H} {p : List MemPlace} (o : Value.okWide Try.prog W .any base 22 v) (k : DataW.Trod enc Try.prog W 0 (fun _ => true) true 22 v d p) :
    ∃ l, PrsAt W v l ∧ l.length ≤ 9223372036854775807 ∧ (∀ x ∈ l, okPair x) := by
  obtain ⟨a0, len, cap, rfl⟩ := okWide_slice Try.underlying22 o
  obtain ⟨fuel, hf⟩ := k
  rcases Go.Deep.open_slice Try.underlying22 hf with ⟨hcs, _⟩ | ⟨a, l, c, m, n, D, Pl, hcs, _, hl, hm, hmm, _, hi⟩
  · simp [Value.cells] at hcs
    obtain ⟨rfl, rfl, rfl⟩ := hcs
    exact ⟨[], ⟨none, 0, rfl, by simp, by simp⟩, by simp, by simp⟩
  · simp [Value.cells] at hcs
    obtain ⟨rfl, rfl, rfl⟩ := hcs
    have hmc : m = cap := by simpa using hmm
    subst hmc
    have hspot : 0 < m → a.spot = none := fun h0 => by
      obtain ⟨cs', hc, _⟩ := hi 0 h0
      rw [cells_Prs] at hc
      obtain ⟨_, hcl, hat⟩ := World.cells?_some hc
      match cs', hcl with
      | [c0, c1], _ =>
        have q0 := hat 0 (by omega)
        simpa [Addr.add] using World.cell?_spot q0
    have hel : ∀ i, i < m → ∃ x : (Int × Int), okPair x ∧ ∃ b off, a = ⟨b, off, none⟩ ∧ W.cell? ⟨b, off + i * 2, none⟩ = some (.int .i64 x.1) ∧ W.cell? ⟨b, off + i * 2 + 1, none⟩ = some (.int .i64 x.2) := by
      intro i him
      obtain ⟨cs', hc, ht⟩ := hi i him
      rw [cells_Prs] at hc
      obtain ⟨_, hcl, hat⟩ := World.cells?_some hc
      match cs', hcl with
      | [c0, c1], _ =>
        obtain ⟨xs, n', _, _, _, hlen, hg⟩ := DataW.trod_array Try.underlying51 ht
        match xs, hlen with
        | [y0, y1], _ =>
          have g0 := hg 0 (by omega)
          have g1 := hg 1 (by omega)
          simp [cells_Prs_int] at g0 g1
          obtain ⟨x0, e0, _, w0⟩ := DataW.trod_int Try.underlying3 g0
          obtain ⟨x1, e1, _, w1⟩ := DataW.trod_int Try.underlying3 g1
          simp at e0 e1
          subst e0 e1
          have q0 := hat 0 (by omega)
          have q1 := hat 1 (by omega)
          obtain ⟨b, off, spot⟩ := a
          obtain rfl : spot = none := hspot (by omega)
          refine ⟨(x0, x1), trivial, b, off, rfl, ?_, ?_⟩
          · by_cases h0 : i = 0
            · subst h0; simpa [Addr.add] using q0
            · have h3 : ¬ i * 2 = 0 := by omega
              simpa [Addr.add, h3] using q0
          · by_cases h0 : i = 0
            · subst h0; simpa [Addr.add] using q1
            · have h3 : ¬ i * 2 = 0 := by omega
              simpa [Addr.add, h3] using q1
    have hex : ∃ f : Nat → (Int × Int), ∀ i, i < m → okPair (f i) ∧ ∃ b off, a = ⟨b, off, none⟩ ∧ W.cell? ⟨b, off + i * 2, none⟩ = some (.int .i64 (f i).1) ∧ W.cell? ⟨b, off + i * 2 + 1, none⟩ = some (.int .i64 (f i).2) := by
      refine ⟨fun i => if h : i < m then Classical.choose (hel i h) else Classical.choice inferInstance, fun i hi' => ?_⟩
      simp only [dif_pos hi']
      exact Classical.choose_spec (hel i hi')
    obtain ⟨f, hf'⟩ := hex
    refine ⟨(List.range len).map f, ⟨some a, m, by simp, by simpa using hl, fun i x hx => ?_⟩, by simp; unfold maxLen at hm; omega, ?_⟩
    · have hi' : i < len := by have := (List.getElem?_eq_some_iff.1 hx).1; simpa using this
      have hx' : f i = x := by
        have := (List.getElem?_eq_some_iff.1 hx).2
        simpa using this
      obtain ⟨_, b, off, e, hcc⟩ := hf' i (by omega)
      rw [hx'] at hcc
      exact ⟨b, off, by rw [e], hcc⟩
    · intro x hx
      obtain ⟨i, hi', rfl⟩ := List.mem_map.1 hx
      exact (hf' i (by have := List.mem_range.1 hi'; omega)).1
theorem PrsAt.pairs {w : World} {v : Value} {l : List (Int × Int)} (h : PrsAt w v l) : PairsAt w v l := by
  obtain ⟨a, c, h1, _, h3⟩ := h
  refine ⟨a, c, h1, fun i x hx => ?_⟩
  obtain ⟨b, off, e, c0, c1⟩ := h3 i x hx
  exact ⟨b, off, e, c0, c1⟩
set_option maxRecDepth 100000 in
theorem cellsI : Try.prog.cellsOf 3 = 1 := by kernel_rfl
section
variable {H : Type} {enc : TypeId × Value → H} {W : World} {base : Nat} {v : Value} {d : DataW H} {p : List MemPlace}
def IntsAt (w : World) (v : Value) (l : List Int) : Prop :=
  ∃ a0 cap, v = .slice a0 l.length cap ∧ ∀ i x, l[i]? = some x → (-9223372036854775808 ≤ x ∧ x ≤ 9223372036854775807) ∧ ∃ b off, a0 = some ⟨b, off, none⟩ ∧ w.cell? ⟨b, off + i, none⟩ = some (.int .i64 x)
theorem IntsAt.grew {w w' : World} {v : Value} {l : List Int} (h : IntsAt w v l) (hg : Grew w w') : IntsAt w' v l := by
  obtain ⟨a0, cap, h1, h3⟩ := h
  exact ⟨a0, cap, h1, fun i x hx => let ⟨hb, b, off, e, p⟩ := h3 i x hx; ⟨hb, b, off, e, hg.cell p⟩⟩
set_option maxRecDepth 100000 in
theorem open_intlist (o : Value.okWide Try.prog W .any base 86 v) (k : DataW.Trod enc Try.prog W 0 (fun _ => true) true 86 v d p) : ∃ l, IntsAt W v l ∧ l.length ≤ 9223372036854775807 := by
  obtain ⟨a0, len, cap, rfl⟩ := okWide_slice Try.underlying86 o
  obtain ⟨fuel, hf⟩ := k
  rcases open_ints Try.underlying86 Try.underlying3 cellsI hf with ⟨hcs, _⟩ | ⟨x, l, c, zs, hcs, _, hl, hm, hz, _, hcell, hwz⟩
  · simp [Value.cells] at hcs
    obtain ⟨rfl, rfl, rfl⟩ := hcs
    exact ⟨[], ⟨none, 0, rfl, by simp⟩, by simp⟩
  · simp [Value.cells] at hcs
    obtain ⟨rfl, rfl, rfl⟩ := hcs
    have hz' : zs.length = cap := by simpa using hz
    have hlen : (zs.take len).length = len := by rw [List.length_take]; omega
    refine ⟨zs.take len, ⟨some x, cap, by rw [hlen], fun i y hy => ?_⟩, by rw [hlen]; unfold maxLen at hm; omega⟩
    have hi : i < len := by rw [← hlen]; exact (List.getElem?_eq_some_iff.1 hy).1
    have hy' : zs[i]? = some y := by rw [List.getElem?_take, if_pos hi] at hy; exact hy
    have hc := hcell i (by omega)
    have hget : zs.getD i 0 = y := by simp [List.getD_eq_getElem?_getD, hy']
    rw [hget] at hc
    refine ⟨bounds_i64 (hwz y (List.mem_of_getElem? hy')), ?_⟩
    obtain ⟨b, off, spot⟩ := x
    have hspot : spot = none := by
      have h0 := hcell 0 (by omega)
      simpa [Addr.add] using World.cell?_spot h0
    subst hspot
    refine ⟨b, off, rfl, ?_⟩
    by_cases h0 : i = 0
    · subst h0; simpa [Addr.add] using hc
    · simpa [Addr.add, h0] using hc
end
end Go.Proofs.Ytajpbclcfjljnaa

/-
  Vectors: two buffers beside each other, a slice of pairs cut short.
-/
namespace Go.Proofs.Ytajpbclcfjljnaa
open Go Go.ChangeShapes Go.WideShapes Go.ChangeAt Go.RowKit Go.Joins
open Go.Proofs.Ytajpbclcfjljnaa.Ft (V3 vV okV ValsAt inlineB legalB packF codeF typedF allF)
set_option linter.unusedVariables false
set_option linter.unusedSimpArgs false
def Apart (p : Nat) (o : Option Nat) (q : Nat) (o' : Option Nat) : Prop := ∀ k, Own2 p o k → ¬ Own2 q o' k
theorem Apart.next1 {w : World} {p q : Nat} {o o1 o' : Option Nat} (h : Apart p o q o') (hn : Next w o o1) (hlt : ∀ k, Own2 q o' k → k < w.heap.size) : Apart p o1 q o' := by
  intro k hk hq
  rcases hk with rfl | hk
  · exact h k (.inl rfl) hq
  · rcases hn k hk.symm with h1 | h1
    · exact h k (.inr h1.symm) hq
    · have := hlt k hq; omega
theorem Apart.symm {p q : Nat} {o o' : Option Nat} (h : Apart p o q o') : Apart q o' p o := fun k h1 h2 => h k h2 h1
def LiveBB (w0 w : World) (p q : Nat) (most most' : Int) (s t : St) : Prop := ∃ o o', BufAt w0.heap.size w p o s.1 most s.2 ∧ BufAt w0.heap.size w q o' t.1 most' t.2 ∧ Apart p o q o' ∧ Below w0.heap.size w0 w ∧ ((s.1.length : Int) ≤ most ∧ most ≤ 1048576) ∧ (t.1.length : Int) ≤ most' ∧ most' ≤ 1048576
section
variable {w0 w w' : World} {p q : Nat} {o o' : Option Nat} {most most' : Int} {s t s' t' : St}
theorem LiveBB.below (h : LiveBB w0 w p q most most' s t) : Below w0.heap.size w0 w := by obtain ⟨_, _, _, _, _, h, _⟩ := h; exact h
theorem LiveBB.grew (h : LiveBB w0 w p q most most' s t) (hg : Grew w w') : LiveBB w0 w' p q most most' s t := by
  obtain ⟨o, o', h1, h2, h3, h4, h5⟩ := h
  exact ⟨o, o', h1.grew hg, h2.grew hg, h3, Below.trans h4 (Below.mono hg h4.size), h5⟩
theorem LiveBB.one (h : LiveBB w0 w p q most most' s t) : Live w0 w p most s := by
  obtain ⟨o, o', h1, h2, h3, h4, h5, h6⟩ := h
  exact ⟨o, h1, h4, h5⟩
theorem LiveBB.step1 (h1 : BufAt w0.heap.size w p o s.1 most s.2) (h2 : BufAt w0.heap.size w q o' t.1 most' t.2) (h3 : Apart p o q o') (h4 : Below w0.heap.size w0 w) (ht : TurnB w0.heap.size w w' p o most s') (hl : (s'.1.length : Int) ≤ most ∧ most ≤ 1048576) (hl' : (t.1.length : Int) ≤ most' ∧ most' ≤ 1048576) : LiveBB w0 w' p q most most' s' t := by
  obtain ⟨o1, t1, t2, t3⟩ := ht
  exact ⟨o1, o', t1, h2.kept t3 (fun h => h3 q h (.inl rfl)) (fun k hk h => h3 k h (.inr hk.symm)), h3.next1 t2 h2.lt, Below.trans h4 (t3.below h4.size h1.ge), hl, hl'⟩
theorem LiveBB.step2 (h1 : BufAt w0.heap.size w p o s.1 most s.2) (h2 : BufAt w0.heap.size w q o' t.1 most' t.2) (h3 : Apart p o q o') (h4 : Below w0.heap.size w0 w) (ht : TurnB w0.heap.size w w' q o' most' t') (hl : (s.1.length : Int) ≤ most ∧ most ≤ 1048576) (hl' : (t'.1.length : Int) ≤ most' ∧ most' ≤ 1048576) : LiveBB w0 w' p q most most' s t' := by
  obtain ⟨o1, t1, t2, t3⟩ := ht
  exact ⟨o, o1, h1.kept t3 (fun h => h3 p (.inl rfl) h) (fun k hk h => h3 k (.inr hk.symm) h), t1, (h3.symm.next1 t2 h1.lt).symm, Below.trans h4 (t3.below h4.size h2.ge), hl, hl'⟩
theorem LiveBB.two (h : LiveBB w0 w p q most most' s t) : Live w0 w q most' t := by
  obtain ⟨o, o', h1, h2, h3, h4, h5, h6⟩ := h
  exact ⟨o', h2, h4, h6⟩
theorem LiveBB.make {w1 : World} (h1 : Live w0 w1 p most s) (h2 : Live w1 w q most' t) : LiveBB w0 w p q most most' s t := by
  obtain ⟨o, a1, a2, a3, a4⟩ := h1
  obtain ⟨o', b1, b2, b3, b4⟩ := h2
  have hlt := a1.lt
  have hge := b1.ge
  obtain ⟨hq, v, r1, r2, r3, r4⟩ := b1
  refine ⟨o, o', a1.grew b2, ⟨Nat.le_trans a2.size hq, v, r1, own_base r2 a2.size, r3, r4⟩, fun k h1 h2 => ?_, Below.trans a2 (Below.mono b2 a2.size), ⟨a3, a4⟩, b3, b4⟩
  have := hlt k h1
  have := hge k h2
  omega
end
theorem BufAt.not_row {B : Nat} {w : World} {p : Nat} {o : Option Nat} {l : List UInt8} {most e : Int} (h : BufAt B w p o l most e) {k : Nat} {cs : Array Value} (hk : w.heap[k]? = some (.cells cs 30 (0, 0))) : ¬ Own2 p o k := by
  obtain ⟨_, v, h1, h2, h3, _⟩ := h
  rintro (rfl | hq)
  · rw [h1] at hk
    injection hk with hk
    injection hk with _ ht
    exact absurd ht (by decide)
  · rcases h2.2 with ⟨rfl, _⟩ | ⟨g, cap, cur, rfl, _, hg, _⟩
    · rw [← h3] at hq; cases hq
    · rw [← h3] at hq
      have hkg : k = g := by injection hq
      subst hkg
      rw [hg] at hk
      injection hk with hk
      injection hk with _ ht
      exact absurd ht (by decide)
theorem put_fresh {B : Nat} {w0 w : World} {p : Nat} {o : Option Nat} {most : Int} (s : St) (lv : Value) (L : List V3) (h : BufAt B w0 p o s.1 most s.2) (hB : B ≤ w0.heap.size) (hown : OwnVals w w0.heap.size lv L) (hg : Grew w0 w) (hl : (s.1.length : Int) ≤ most) (hm1 : most ≤ 1048576) (hlen : L.length ≤ 1048576) (hok : ∀ v ∈ L, okV v) (hs : s.2 = 0) :
    Calls Try.prog 12 #[bptr p, .int .i64 (-1), .int .i64 0, lv] w fun r w' => r = .returned (putV (putF most legalE true true 10 0 L s).1) ∧ TurnB B w w' p o most (putF most legalE true true 10 0 L s).2 := by
  refine put_un s lv L (h.grew hg) (Nat.le_trans hB hg.size) hl hm1 hown.vals hlen hok ?_ hs
  intro ad n' c' e
  have hlt := own_lt hown e
  have hge := own_ge hown e
  exact ⟨hlt, fun hq => by have := h.lt _ hq; omega⟩
theorem put_fresh_ty {B : Nat} {w0 w : World} {p : Nat} {o : Option Nat} {most : Int} (elem kd : Int) (hkd : typedF elem 0 = (kd, true)) (hne : elem ≠ -1) (s : St) (lv : Value) (L : List V3) (h : BufAt B w0 p o s.1 most s.2) (hB : B ≤ w0.heap.size) (hown : OwnVals w w0.heap.size lv L) (hg : Grew w0 w) (hl : (s.1.length : Int) ≤ most) (hm1 : most ≤ 1048576) (hlen : L.length ≤ 1048576) (hok : ∀ v ∈ L, okV v) (hs : s.2 = 0) :
    Calls Try.prog 12 #[bptr p, .int .i64 elem, .int .i64 0, lv] w fun r w' => r = .returned (putV (putF most (takesE elem) true false kd 0 L s).1) ∧ TurnB B w w' p o most (putF most (takesE elem) true false kd 0 L s).2 := by
  refine put_ty0 elem kd hkd hne s lv L (h.grew hg) (Nat.le_trans hB hg.size) hl hm1 hown.vals hlen hok ?_ hs
  intro ad n' c' e
  have hlt := own_lt hown e
  have hge := own_ge hown e
  exact ⟨hlt, fun hq => by have := h.lt _ hq; omega⟩
theorem PrsAt.cap {w : World} {v : Value} {l : List (Int × Int)} (h : PrsAt w v l) : ∀ ad n c, v = .slice ad n c → n ≤ c := by
  obtain ⟨a, c, h1, h2, _⟩ := h
  intro ad n c' e
  rw [h1] at e
  cases e
  exact h2
theorem PairsAt.cut {w : World} {a : Option Addr} {c : Nat} {l : List (Int × Int)} (h : PairsAt w (.slice a l.length c) l) (k : Nat) (hk : k ≤ l.length) (c2 : Nat) : PairsAt w (.slice a k c2) (l.take k) := by
  obtain ⟨a', c', e, hc⟩ := h
  cases e
  refine ⟨a, c2, by rw [List.length_take, Nat.min_eq_left hk], fun i x hx => ?_⟩
  rw [List.getElem?_take] at hx
  split at hx
  · exact hc i x hx
  · cases hx
end Go.Proofs.Ytajpbclcfjljnaa
