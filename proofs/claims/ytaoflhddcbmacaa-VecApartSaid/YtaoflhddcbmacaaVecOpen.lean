/-
  How the laws' arguments read: a slice of pairs, a slice of ints. Conditions: the argument can be read as data.
-/
import Derived.Test.YtaoflhddcbmacaaVecWorks
import Derived.Test.YtaoflhddcbmacaaVecPlain
import Derived.Deep.Slices
import Derived.Deep.Fields
import Derived.ChangeSame
namespace Go.Proofs.Ytaoflhddcbmacaa
open Go Go.ChangeShapes Go.WideShapes Go.ChangeAt Go.RowKit Go.Joins Go.Deep
set_option linter.unusedVariables false
set_option linter.unusedSimpArgs false

def okPair (x : Int × Int) : Prop := True
/-- The slice value v reads as the list l in w. -/
def PrsAt (w : World) (v : Value) (l : List (Int × Int)) : Prop :=
  ∃ a0 cap, v = .slice a0 l.length cap ∧ l.length ≤ cap ∧ ∀ (i : Nat) (x : (Int × Int)), l[i]? = some x → ∃ b off, a0 = some ⟨b, off, none⟩ ∧ w.cell? ⟨b, off + i * 2, none⟩ = some (.int .i64 x.1) ∧ w.cell? ⟨b, off + i * 2 + 1, none⟩ = some (.int .i64 x.2)
theorem PrsAt.kept {S : Nat → Prop} {w w' : World} {v : Value} {l : List (Int × Int)} (h : PrsAt w v l) (hg : Moved S w w') (hS : ∀ k, S k → w.heap.size ≤ k) : PrsAt w' v l := by
  obtain ⟨a0, cap, h1, h2, h3⟩ := h
  refine ⟨a0, cap, h1, h2, fun i x hx => ?_⟩
  obtain ⟨b, off, e, p⟩ := h3 i x hx
  have hb : b < w.heap.size := World.block_lt_of_cell? w ⟨b, off + i * 2, none⟩ p.1
  have hn : ¬ S b := fun hs => by have := hS b hs; omega
  exact ⟨b, off, e, hg.cell p.1 hn, hg.cell p.2 hn⟩
theorem PrsAt.below {B : Nat} {w w' : World} {v : Value} {l : List (Int × Int)} (h : PrsAt w v l) (hg : Below B w w') (hB : w.heap.size ≤ B) : PrsAt w' v l :=
  h.kept (S := fun k => B ≤ k) ⟨hg.os, hg.tape, hg.output, hg.size, fun k hk hs => hg.block k (by omega)⟩ (fun k hk => by omega)
theorem cells_Prs : Try.prog.cellsOf 38 = 2 := by kernel_rfl
set_option maxRecDepth 100000 in
theorem cells_Prs_int : Try.prog.cellsOf 3 = 1 := by kernel_rfl
set_option maxRecDepth 100000 in
theorem open_Prs {H : Type} {enc : TypeId × Value → H} {W : World} {base : Nat} {v : Value} {d : DataW H} {p : List MemPlace} (o : Value.okWide Try.prog W .any base 22 v) (k : DataW.Trod enc Try.prog W 0 (fun _ => true) true 22 v d p) :
    ∃ l, PrsAt W v l ∧ l.length ≤ 9223372036854775807 ∧ (∀ x ∈ l, okPair x) := by
  obtain ⟨a0, len, cap, rfl⟩ := okWide_slice Try.underlying22 o
  obtain ⟨fuel, hf⟩ := k
  rcases Go.Deep.open_slice Try.underlying22 hf with ⟨hcs, _⟩ | ⟨a, l, c, m, n, D, Pl, hcs, _, hl, hm, hmm, _, hi⟩
  · simp [Value.cells] at hcs
    obtain ⟨rfl, rfl, rfl⟩ := hcs
    exact ⟨[], ⟨none, 0, rfl, by simp, by simp⟩, by simp, by simp⟩
  · simp [Value.cells] at hcs
    obtain ⟨rfl, rfl, rfl⟩ := hcs
    have hmc : m = cap := by simpa using hmm
    subst hmc
    have hspot : 0 < m → a.spot = none := fun h0 => by
      obtain ⟨cs', hc, _⟩ := hi 0 h0
      rw [cells_Prs] at hc
      obtain ⟨_, hcl, hat⟩ := World.cells?_some hc
      match cs', hcl with
      | [c0, c1], _ =>
        have q0 := hat 0 (by omega)
        simpa [Addr.add] using World.cell?_spot q0
    have hel : ∀ i, i < m → ∃ x : (Int × Int), okPair x ∧ ∃ b off, a = ⟨b, off, none⟩ ∧ W.cell? ⟨b, off + i * 2, none⟩ = some (.int .i64 x.1) ∧ W.cell? ⟨b, off + i * 2 + 1, none⟩ = some (.int .i64 x.2) := by
      intro i him
      obtain ⟨cs', hc, ht⟩ := hi i him
      rw [cells_Prs] at hc
      obtain ⟨_, hcl, hat⟩ := World.cells?_some hc
      match cs', hcl with
      | [c0, c1], _ =>
        obtain ⟨xs, n', _, _, _, hlen, hg⟩ := DataW.trod_array Try.underlying38 ht
        match xs, hlen with
        | [y0, y1], _ =>
          have g0 := hg 0 (by omega)
          have g1 := hg 1 (by omega)
          simp [cells_Prs_int] at g0 g1
          obtain ⟨x0, e0, _, w0⟩ := DataW.trod_int Try.underlying3 g0
          obtain ⟨x1, e1, _, w1⟩ := DataW.trod_int Try.underlying3 g1
          simp at e0 e1
          subst e0 e1
          have q0 := hat 0 (by omega)
          have q1 := hat 1 (by omega)
          obtain ⟨b, off, spot⟩ := a
          obtain rfl : spot = none := hspot (by omega)
          refine ⟨(x0, x1), trivial, b, off, rfl, ?_, ?_⟩
          · by_cases h0 : i = 0
            · subst h0; simpa [Addr.add] using q0
            · have h3 : ¬ i * 2 = 0 := by omega
              simpa [Addr.add, h3] using q0
          · by_cases h0 : i = 0
            · subst h0; simpa [Addr.add] using q1
            · have h3 : ¬ i * 2 = 0 := by omega
              simpa [Addr.add, h3] using q1
    have hex : ∃ f : Nat → (Int × Int), ∀ i, i < m → okPair (f i) ∧ ∃ b off, a = ⟨b, off, none⟩ ∧ W.cell? ⟨b, off + i * 2, none⟩ = some (.int .i64 (f i).1) ∧ W.cell? ⟨b, off + i * 2 + 1, none⟩ = some (.int .i64 (f i).2) := by
      refine ⟨fun i => if h : i < m then Classical.choose (hel i h) else Classical.choice inferInstance, fun i hi' => ?_⟩
      simp only [dif_pos hi']
      exact Classical.choose_spec (hel i hi')
    obtain ⟨f, hf'⟩ := hex
    refine ⟨(List.range len).map f, ⟨some a, m, by simp, by simpa using hl, fun i x hx => ?_⟩, by simp; unfold maxLen at hm; omega, ?_⟩
    · have hi' : i < len := by have := (List.getElem?_eq_some_iff.1 hx).1; simpa using this
      have hx' : f i = x := by
        have := (List.getElem?_eq_some_iff.1 hx).2
        simpa using this
      obtain ⟨_, b, off, e, hcc⟩ := hf' i (by omega)
      rw [hx'] at hcc
      exact ⟨b, off, by rw [e], hcc⟩
    · intro x hx
      obtain ⟨i, hi', rfl⟩ := List.mem_map.1 hx
      exact (hf' i (by have := List.mem_range.1 hi'; omega)).1
theorem PrsAt.pairs {w : World} {v : Value} {l : List (Int × Int)} (h : PrsAt w v l) : PairsAt w v l := by
  obtain ⟨a, c, h1, _, h3⟩ := h
  refine ⟨a, c, h1, fun i x hx => ?_⟩
  obtain ⟨b, off, e, c0, c1⟩ := h3 i x hx
  exact ⟨b, off, e, c0, c1⟩
set_option maxRecDepth 100000 in
theorem cellsI : Try.prog.cellsOf 3 = 1 := by kernel_rfl
section
variable {H : Type} {enc : TypeId × Value → H} {W : World} {base : Nat} {v : Value} {d : DataW H} {p : List MemPlace}
/-- The slice value v reads as the list l of ints in w. -/
def IntsAt (w : World) (v : Value) (l : List Int) : Prop :=
  ∃ a0 cap, v = .slice a0 l.length cap ∧ ∀ i x, l[i]? = some x → (-9223372036854775808 ≤ x ∧ x ≤ 9223372036854775807) ∧ ∃ b off, a0 = some ⟨b, off, none⟩ ∧ w.cell? ⟨b, off + i, none⟩ = some (.int .i64 x)
theorem IntsAt.grew {w w' : World} {v : Value} {l : List Int} (h : IntsAt w v l) (hg : Grew w w') : IntsAt w' v l := by
  obtain ⟨a0, cap, h1, h3⟩ := h
  exact ⟨a0, cap, h1, fun i x hx => let ⟨hb, b, off, e, p⟩ := h3 i x hx; ⟨hb, b, off, e, hg.cell p⟩⟩

set_option maxRecDepth 100000 in
theorem open_intlist (o : Value.okWide Try.prog W .any base 37 v) (k : DataW.Trod enc Try.prog W 0 (fun _ => true) true 37 v d p) : ∃ l, IntsAt W v l ∧ l.length ≤ 9223372036854775807 := by
  obtain ⟨a0, len, cap, rfl⟩ := okWide_slice Try.underlying37 o
  obtain ⟨fuel, hf⟩ := k
  rcases open_ints Try.underlying37 Try.underlying3 cellsI hf with ⟨hcs, _⟩ | ⟨x, l, c, zs, hcs, _, hl, hm, hz, _, hcell, hwz⟩
  · simp [Value.cells] at hcs
    obtain ⟨rfl, rfl, rfl⟩ := hcs
    exact ⟨[], ⟨none, 0, rfl, by simp⟩, by simp⟩
  · simp [Value.cells] at hcs
    obtain ⟨rfl, rfl, rfl⟩ := hcs
    have hz' : zs.length = cap := by simpa using hz
    have hlen : (zs.take len).length = len := by rw [List.length_take]; omega
    refine ⟨zs.take len, ⟨some x, cap, by rw [hlen], fun i y hy => ?_⟩, by rw [hlen]; unfold maxLen at hm; omega⟩
    have hi : i < len := by rw [← hlen]; exact (List.getElem?_eq_some_iff.1 hy).1
    have hy' : zs[i]? = some y := by rw [List.getElem?_take, if_pos hi] at hy; exact hy
    have hc := hcell i (by omega)
    have hget : zs.getD i 0 = y := by simp [List.getD_eq_getElem?_getD, hy']
    rw [hget] at hc
    refine ⟨bounds_i64 (hwz y (List.mem_of_getElem? hy')), ?_⟩
    obtain ⟨b, off, spot⟩ := x
    have hspot : spot = none := by
      have h0 := hcell 0 (by omega)
      simpa [Addr.add] using World.cell?_spot h0
    subst hspot
    refine ⟨b, off, rfl, ?_⟩
    by_cases h0 : i = 0
    · subst h0; simpa [Addr.add] using hc
    · simpa [Addr.add, h0] using hc

end
end Go.Proofs.Ytaoflhddcbmacaa
