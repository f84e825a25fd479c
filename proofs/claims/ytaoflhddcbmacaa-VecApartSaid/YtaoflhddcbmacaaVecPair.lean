/-
  Vectors: two buffers beside each other, a slice of pairs cut short.
-/
import Derived.Test.YtaoflhddcbmacaaVecOpen
import Derived.Test.YtaoflhddcbmacaaVecRead
namespace Go.Proofs.Ytaoflhddcbmacaa
open Go Go.ChangeShapes Go.WideShapes Go.ChangeAt Go.RowKit Go.Joins
open Go.Proofs.Ytaoflhddcbmacaa.Ft (V3 vV okV ValsAt inlineB legalB packF codeF typedF allF)
set_option linter.unusedVariables false
set_option linter.unusedSimpArgs false

def Apart (p : Nat) (o : Option Nat) (q : Nat) (o' : Option Nat) : Prop := ∀ k, Own2 p o k → ¬ Own2 q o' k
theorem Apart.next1 {w : World} {p q : Nat} {o o1 o' : Option Nat} (h : Apart p o q o') (hn : Next w o o1) (hlt : ∀ k, Own2 q o' k → k < w.heap.size) : Apart p o1 q o' := by
  intro k hk hq
  rcases hk with rfl | hk
  · exact h k (.inl rfl) hq
  · rcases hn k hk.symm with h1 | h1
    · exact h k (.inr h1.symm) hq
    · have := hlt k hq; omega
theorem Apart.symm {p q : Nat} {o o' : Option Nat} (h : Apart p o q o') : Apart q o' p o := fun k h1 h2 => h k h2 h1

def LiveBB (w0 w : World) (p q : Nat) (most most' : Int) (s t : St) : Prop := ∃ o o', BufAt w0.heap.size w p o s.1 most s.2 ∧ BufAt w0.heap.size w q o' t.1 most' t.2 ∧ Apart p o q o' ∧ Below w0.heap.size w0 w ∧ ((s.1.length : Int) ≤ most ∧ most ≤ 1048576) ∧ (t.1.length : Int) ≤ most' ∧ most' ≤ 1048576
section
variable {w0 w w' : World} {p q : Nat} {o o' : Option Nat} {most most' : Int} {s t s' t' : St}
theorem LiveBB.below (h : LiveBB w0 w p q most most' s t) : Below w0.heap.size w0 w := by obtain ⟨_, _, _, _, _, h, _⟩ := h; exact h
theorem LiveBB.grew (h : LiveBB w0 w p q most most' s t) (hg : Grew w w') : LiveBB w0 w' p q most most' s t := by
  obtain ⟨o, o', h1, h2, h3, h4, h5⟩ := h
  exact ⟨o, o', h1.grew hg, h2.grew hg, h3, Below.trans h4 (Below.mono hg h4.size), h5⟩
theorem LiveBB.one (h : LiveBB w0 w p q most most' s t) : Live w0 w p most s := by
  obtain ⟨o, o', h1, h2, h3, h4, h5, h6⟩ := h
  exact ⟨o, h1, h4, h5⟩
theorem LiveBB.step1 (h1 : BufAt w0.heap.size w p o s.1 most s.2) (h2 : BufAt w0.heap.size w q o' t.1 most' t.2) (h3 : Apart p o q o') (h4 : Below w0.heap.size w0 w) (ht : TurnB w0.heap.size w w' p o most s') (hl : (s'.1.length : Int) ≤ most ∧ most ≤ 1048576) (hl' : (t.1.length : Int) ≤ most' ∧ most' ≤ 1048576) : LiveBB w0 w' p q most most' s' t := by
  obtain ⟨o1, t1, t2, t3⟩ := ht
  exact ⟨o1, o', t1, h2.kept t3 (fun h => h3 q h (.inl rfl)) (fun k hk h => h3 k h (.inr hk.symm)), h3.next1 t2 h2.lt, Below.trans h4 (t3.below h4.size h1.ge), hl, hl'⟩
theorem LiveBB.step2 (h1 : BufAt w0.heap.size w p o s.1 most s.2) (h2 : BufAt w0.heap.size w q o' t.1 most' t.2) (h3 : Apart p o q o') (h4 : Below w0.heap.size w0 w) (ht : TurnB w0.heap.size w w' q o' most' t') (hl : (s.1.length : Int) ≤ most ∧ most ≤ 1048576) (hl' : (t'.1.length : Int) ≤ most' ∧ most' ≤ 1048576) : LiveBB w0 w' p q most most' s t' := by
  obtain ⟨o1, t1, t2, t3⟩ := ht
  exact ⟨o, o1, h1.kept t3 (fun h => h3 p (.inl rfl) h) (fun k hk h => h3 k (.inr hk.symm) h), t1, (h3.symm.next1 t2 h1.lt).symm, Below.trans h4 (t3.below h4.size h2.ge), hl, hl'⟩
theorem LiveBB.two (h : LiveBB w0 w p q most most' s t) : Live w0 w q most' t := by
  obtain ⟨o, o', h1, h2, h3, h4, h5, h6⟩ := h
  exact ⟨o', h2, h4, h6⟩
theorem LiveBB.make {w1 : World} (h1 : Live w0 w1 p most s) (h2 : Live w1 w q most' t) : LiveBB w0 w p q most most' s t := by
  obtain ⟨o, a1, a2, a3, a4⟩ := h1
  obtain ⟨o', b1, b2, b3, b4⟩ := h2
  have hlt := a1.lt
  have hge := b1.ge
  obtain ⟨hq, v, r1, r2, r3, r4⟩ := b1
  refine ⟨o, o', a1.grew b2, ⟨Nat.le_trans a2.size hq, v, r1, own_base r2 a2.size, r3, r4⟩, fun k h1 h2 => ?_, Below.trans a2 (Below.mono b2 a2.size), ⟨a3, a4⟩, b3, b4⟩
  have := hlt k h1
  have := hge k h2
  omega
end
/-- A buffer's blocks hold no struct value. -/
theorem BufAt.not_row {B : Nat} {w : World} {p : Nat} {o : Option Nat} {l : List UInt8} {most e : Int} (h : BufAt B w p o l most e) {k : Nat} {cs : Array Value} (hk : w.heap[k]? = some (.cells cs 28 (0, 0))) : ¬ Own2 p o k := by
  obtain ⟨_, v, h1, h2, h3, _⟩ := h
  rintro (rfl | hq)
  · rw [h1] at hk
    injection hk with hk
    injection hk with _ ht
    exact absurd ht (by decide)
  · rcases h2.2 with ⟨rfl, _⟩ | ⟨g, cap, cur, rfl, _, hg, _⟩
    · rw [← h3] at hq; cases hq
    · rw [← h3] at hq
      have hkg : k = g := by injection hq
      subst hkg
      rw [hg] at hk
      injection hk with hk
      injection hk with _ ht
      exact absurd ht (by decide)
/-- Put of values made just now. -/
theorem put_fresh {B : Nat} {w0 w : World} {p : Nat} {o : Option Nat} {most : Int} (s : St) (lv : Value) (L : List V3) (h : BufAt B w0 p o s.1 most s.2) (hB : B ≤ w0.heap.size) (hown : OwnVals w w0.heap.size lv L) (hg : Grew w0 w) (hl : (s.1.length : Int) ≤ most) (hm1 : most ≤ 1048576) (hlen : L.length ≤ 1048576) (hok : ∀ v ∈ L, okV v) (hs : s.2 = 0) :
    Calls Try.prog 10 #[bptr p, .int .i64 (-1), .int .i64 0, lv] w fun r w' => r = .returned (putV (putF most legalE true true 10 0 L s).1) ∧ TurnB B w w' p o most (putF most legalE true true 10 0 L s).2 := by
  refine put_un s lv L (h.grew hg) (Nat.le_trans hB hg.size) hl hm1 hown.vals hlen hok ?_ hs
  intro ad n' c' e
  have hlt := own_lt hown e
  have hge := own_ge hown e
  exact ⟨hlt, fun hq => by have := h.lt _ hq; omega⟩
theorem put_fresh_ty {B : Nat} {w0 w : World} {p : Nat} {o : Option Nat} {most : Int} (elem kd : Int) (hkd : typedF elem 0 = (kd, true)) (hne : elem ≠ -1) (s : St) (lv : Value) (L : List V3) (h : BufAt B w0 p o s.1 most s.2) (hB : B ≤ w0.heap.size) (hown : OwnVals w w0.heap.size lv L) (hg : Grew w0 w) (hl : (s.1.length : Int) ≤ most) (hm1 : most ≤ 1048576) (hlen : L.length ≤ 1048576) (hok : ∀ v ∈ L, okV v) (hs : s.2 = 0) :
    Calls Try.prog 10 #[bptr p, .int .i64 elem, .int .i64 0, lv] w fun r w' => r = .returned (putV (putF most (takesE elem) true false kd 0 L s).1) ∧ TurnB B w w' p o most (putF most (takesE elem) true false kd 0 L s).2 := by
  refine put_ty0 elem kd hkd hne s lv L (h.grew hg) (Nat.le_trans hB hg.size) hl hm1 hown.vals hlen hok ?_ hs
  intro ad n' c' e
  have hlt := own_lt hown e
  have hge := own_ge hown e
  exact ⟨hlt, fun hq => by have := h.lt _ hq; omega⟩
theorem PrsAt.cap {w : World} {v : Value} {l : List (Int × Int)} (h : PrsAt w v l) : ∀ ad n c, v = .slice ad n c → n ≤ c := by
  obtain ⟨a, c, h1, h2, _⟩ := h
  intro ad n c' e
  rw [h1] at e
  cases e
  exact h2
theorem PairsAt.cut {w : World} {a : Option Addr} {c : Nat} {l : List (Int × Int)} (h : PairsAt w (.slice a l.length c) l) (k : Nat) (hk : k ≤ l.length) (c2 : Nat) : PairsAt w (.slice a k c2) (l.take k) := by
  obtain ⟨a', c', e, hc⟩ := h
  cases e
  refine ⟨a, c2, by rw [List.length_take, Nat.min_eq_left hk], fun i x hx => ?_⟩
  rw [List.getElem?_take] at hx
  split at hx
  · exact hc i x hx
  · cases hx
end Go.Proofs.Ytaoflhddcbmacaa
