/-
  How the arguments of these laws read: a value, a pair of ints, a slice of ints, a slice of values. Conditions: the argument can be read as data.
-/
import Derived.Test.YtkabfefphdgppaaFitAll
import Derived.ProofKit
import Derived.OpenShut
import Derived.ShutString
import Derived.ChangeOld
import Derived.Lib.SmallJoins
import Derived.Deep.Slices
import Derived.Deep.Fields
import Derived.ChangeSame
namespace Go.Proofs.Ytkabfefphdgppaa
open Go Go.ChangeShapes Go.WideShapes Go.ChangeAt Go.RowKit Go.Joins Go.Deep

theorem cellsV : Try.prog.cellsOf 24 = 3 := by kernel_rfl
theorem cellsI : Try.prog.cellsOf 3 = 1 := by kernel_rfl

section
variable {H : Type} {enc : TypeId × Value → H} {W : World} {base : Nat} {v : Value} {d : DataW H} {p : List MemPlace}

theorem open_pair2 (o : Value.okWide Try.prog W .any base 28 v) (k : DataW.Trod enc Try.prog W 0 (fun _ => true) true 28 v d p) :
    ∃ x y : Int, v = .agg #[.int .i64 x, .int .i64 y] ∧ (-9223372036854775808 ≤ x ∧ x ≤ 9223372036854775807) ∧ (-9223372036854775808 ≤ y ∧ y ≤ 9223372036854775807) := by
  simp only [Value.okWide, Try.underlying28] at o
  obtain ⟨cs, rfl, hsz, _⟩ := o
  obtain ⟨l⟩ := cs
  have hl : l.length = 2 := by
    have h2 : Try.prog.cellsOf 28 = 2 := by kernel_rfl
    rw [h2] at hsz; simpa using hsz
  match l, hl with
  | [c0, c1], _ =>
    obtain ⟨fuel, hf⟩ := k
    obtain ⟨xs, m, _, _, _, hlen, hg⟩ := DataW.trod_array Try.underlying28 hf
    match xs, hlen with
    | [y0, y1], _ =>
      have g0 := hg 0 (by omega)
      have g1 := hg 1 (by omega)
      simp [cellsI, Value.cells] at g0 g1
      obtain ⟨a, e0, _, wa⟩ := DataW.trod_int Try.underlying3 g0
      obtain ⟨b, e1, _, wb⟩ := DataW.trod_int Try.underlying3 g1
      simp at e0 e1
      subst e0 e1
      exact ⟨a, b, rfl, bounds_i64 wa, bounds_i64 wb⟩

/-- A slice value in good form: not longer than its capacity; a nil one has none. -/
def SliceOK (v : Value) : Prop := ∀ a n c, v = .slice a n c → n ≤ c ∧ (a = none → c = 0)

/-- The slice value v reads as the list l of ints in w. -/
def IntsAt (w : World) (v : Value) (l : List Int) : Prop :=
  ∃ a0 cap, v = .slice a0 l.length cap ∧ ∀ i x, l[i]? = some x → (-9223372036854775808 ≤ x ∧ x ≤ 9223372036854775807) ∧ ∃ b off, a0 = some ⟨b, off, none⟩ ∧ w.cell? ⟨b, off + i, none⟩ = some (.int .i64 x)
theorem IntsAt.grew {w w' : World} {v : Value} {l : List Int} (h : IntsAt w v l) (hg : Grew w w') : IntsAt w' v l := by
  obtain ⟨a0, cap, h1, h3⟩ := h
  exact ⟨a0, cap, h1, fun i x hx => let ⟨hb, b, off, e, p⟩ := h3 i x hx; ⟨hb, b, off, e, hg.cell p⟩⟩

theorem open_intlist (o : Value.okWide Try.prog W .any base 38 v) (k : DataW.Trod enc Try.prog W 0 (fun _ => true) true 38 v d p) : ∃ l, IntsAt W v l ∧ l.length ≤ 9223372036854775807 := by
  obtain ⟨a0, len, cap, rfl⟩ := okWide_slice Try.underlying38 o
  obtain ⟨fuel, hf⟩ := k
  rcases open_ints Try.underlying38 Try.underlying3 cellsI hf with ⟨hcs, _⟩ | ⟨x, l, c, zs, hcs, _, hl, hm, hz, _, hcell, hwz⟩
  · simp [Value.cells] at hcs
    obtain ⟨rfl, rfl, rfl⟩ := hcs
    exact ⟨[], ⟨none, 0, rfl, by simp⟩, by simp⟩
  · simp [Value.cells] at hcs
    obtain ⟨rfl, rfl, rfl⟩ := hcs
    have hz' : zs.length = cap := by simpa using hz
    have hlen : (zs.take len).length = len := by rw [List.length_take]; omega
    refine ⟨zs.take len, ⟨some x, cap, by rw [hlen], fun i y hy => ?_⟩, by rw [hlen]; unfold maxLen at hm; omega⟩
    have hi : i < len := by rw [← hlen]; exact (List.getElem?_eq_some_iff.1 hy).1
    have hy' : zs[i]? = some y := by rw [List.getElem?_take, if_pos hi] at hy; exact hy
    have hc := hcell i (by omega)
    have hget : zs.getD i 0 = y := by simp [List.getD_eq_getElem?_getD, hy']
    rw [hget] at hc
    refine ⟨bounds_i64 (hwz y (List.mem_of_getElem? hy')), ?_⟩
    obtain ⟨b, off, spot⟩ := x
    have hspot : spot = none := by
      have h0 := hcell 0 (by omega)
      simpa [Addr.add] using World.cell?_spot h0
    subst hspot
    refine ⟨b, off, rfl, ?_⟩
    by_cases h0 : i = 0
    · subst h0; simpa [Addr.add] using hc
    · simpa [Addr.add, h0] using hc

theorem cellsU : Try.prog.cellsOf 22 = 1 := by kernel_rfl
theorem open_vallist (o : Value.okWide Try.prog W .any base 29 v) (k : DataW.Trod enc Try.prog W 0 (fun _ => true) true 29 v d p) :
    ∃ l, ValsAt W v l ∧ l.length ≤ 9223372036854775807 ∧ (∀ x ∈ l, okV x) ∧ SliceOK v := by
  obtain ⟨a0, len, cap, rfl⟩ := okWide_slice Try.underlying29 o
  obtain ⟨fuel, hf⟩ := k
  rcases open_slice Try.underlying29 hf with ⟨hcs, _⟩ | ⟨a, l, c, m, n, D, Pl, hcs, _, hl, hm, hmm, _, hi⟩
  · simp [Value.cells] at hcs
    obtain ⟨rfl, rfl, rfl⟩ := hcs
    exact ⟨[], ⟨none, 0, rfl, by simp⟩, by simp, by simp, fun a n c e => by cases e; exact ⟨by omega, fun _ => rfl⟩⟩
  · simp [Value.cells] at hcs
    obtain ⟨rfl, rfl, rfl⟩ := hcs
    have hmc : m = cap := by simpa using hmm
    subst hmc
    have hspot : 0 < m → a.spot = none := fun h0 => by
      obtain ⟨cs', hc, _⟩ := hi 0 h0
      rw [cellsV] at hc
      obtain ⟨_, hcl, hat⟩ := World.cells?_some hc
      match cs', hcl with
      | [c0, c1, c2], _ =>
        have q0 := hat 0 (by omega)
        simpa [Addr.add] using World.cell?_spot q0
    have hel : ∀ i, i < m → ∃ x : V3, okV x ∧ ∃ b off, a = ⟨b, off, none⟩ ∧ W.cell? ⟨b, off + i * 3, none⟩ = some (.int .i64 x.1) ∧ W.cell? ⟨b, off + i * 3 + 1, none⟩ = some (.int .i64 x.2.1) ∧ W.cell? ⟨b, off + i * 3 + 2, none⟩ = some (.int .u64 x.2.2) := by
      intro i him
      obtain ⟨cs', hc, ht⟩ := hi i him
      rw [cellsV] at hc
      obtain ⟨_, hcl, hat⟩ := World.cells?_some hc
      match cs', hcl with
      | [c0, c1, c2], _ =>
        obtain ⟨xs, n', _, _, _, hlen, hg⟩ := DataW.trod_struct Try.underlying24 ht
        match xs, hlen with
        | [y0, y1, y2], _ =>
          have g0 := hg 0 _ rfl
          have g1 := hg 1 _ rfl
          have g2 := hg 2 _ rfl
          simp [cellsI, cellsU] at g0 g1 g2
          obtain ⟨x0, e0, _, _⟩ := DataW.trod_int Try.underlying3 g0
          obtain ⟨x1, e1, _, _⟩ := DataW.trod_int Try.underlying3 g1
          obtain ⟨x2, e2, _, w2⟩ := DataW.trod_int Try.underlying22 g2
          simp at e0 e1 e2
          subst e0 e1 e2
          have q0 := hat 0 (by omega)
          have q1 := hat 1 (by omega)
          have q2 := hat 2 (by omega)
          obtain ⟨b, off, spot⟩ := a
          obtain rfl : spot = none := hspot (by omega)
          refine ⟨(x0, x1, x2), bounds_u64 w2, b, off, rfl, ?_, ?_, ?_⟩
          · by_cases h0 : i = 0
            · subst h0; simpa [Addr.add] using q0
            · have h3 : ¬ i * 3 = 0 := by omega
              simpa [Addr.add, h3] using q0
          · by_cases h0 : i = 0
            · subst h0; simpa [Addr.add] using q1
            · have h3 : ¬ i * 3 = 0 := by omega
              simpa [Addr.add, h3] using q1
          · by_cases h0 : i = 0
            · subst h0; simpa [Addr.add] using q2
            · have h3 : ¬ i * 3 = 0 := by omega
              simpa [Addr.add, h3] using q2
    have hex : ∃ f : Nat → V3, ∀ i, i < m → okV (f i) ∧ ∃ b off, a = ⟨b, off, none⟩ ∧ W.cell? ⟨b, off + i * 3, none⟩ = some (.int .i64 (f i).1) ∧ W.cell? ⟨b, off + i * 3 + 1, none⟩ = some (.int .i64 (f i).2.1) ∧ W.cell? ⟨b, off + i * 3 + 2, none⟩ = some (.int .u64 (f i).2.2) := by
      refine ⟨fun i => if h : i < m then Classical.choose (hel i h) else (0, 0, 0), fun i hi' => ?_⟩
      simp only [dif_pos hi']
      exact Classical.choose_spec (hel i hi')
    obtain ⟨f, hf'⟩ := hex
    refine ⟨(List.range len).map f, ⟨some a, m, by simp, fun i x hx => ?_⟩, by simp; unfold maxLen at hm; omega, ?_, fun a n c e => by cases e; exact ⟨hl, fun h => by cases h⟩⟩
    · have hi' : i < len := by have := (List.getElem?_eq_some_iff.1 hx).1; simpa using this
      have hx' : f i = x := by
        have := (List.getElem?_eq_some_iff.1 hx).2
        simpa using this
      obtain ⟨_, b, off, e, c0, c1, c2⟩ := hf' i (by omega)
      rw [hx'] at c0 c1 c2
      exact ⟨b, off, by rw [e], c0, c1, c2⟩
    · intro x hx
      obtain ⟨i, hi', rfl⟩ := List.mem_map.1 hx
      exact (hf' i (by have := List.mem_range.1 hi'; omega)).1

end
end Go.Proofs.Ytkabfefphdgppaa
