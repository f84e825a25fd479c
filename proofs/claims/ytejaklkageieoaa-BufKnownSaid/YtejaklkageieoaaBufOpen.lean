/-
  How the laws' arguments read: a slice of calls. Conditions: the argument can be read as data.
-/
import Derived.Test.YtejaklkageieoaaBufWorks
import Derived.Deep.Slices
import Derived.Deep.Fields
import Derived.ChangeSame
namespace Go.Proofs.Ytejaklkageieoaa
open Go Go.ChangeShapes Go.WideShapes Go.ChangeAt Go.RowKit Go.Joins Go.Deep
set_option linter.unusedVariables false
set_option linter.unusedSimpArgs false

instance : Nonempty DoV := ⟨⟨0, 0, 0, 0, ByteArray.empty⟩⟩
/-- The slice value v reads as the list l in w. -/
def DosAt (w : World) (v : Value) (l : List DoV) : Prop :=
  ∃ a0 cap, v = .slice a0 l.length cap ∧ l.length ≤ cap ∧ ∀ (i : Nat) (x : DoV), l[i]? = some x → ∃ b off, a0 = some ⟨b, off, none⟩ ∧ w.cell? ⟨b, off + i * 5, none⟩ = some (.int .i64 x.kind) ∧ w.cell? ⟨b, off + i * 5 + 1, none⟩ = some (.int .i64 x.w) ∧ w.cell? ⟨b, off + i * 5 + 2, none⟩ = some (.int .i64 x.n) ∧ w.cell? ⟨b, off + i * 5 + 3, none⟩ = some (.int .u64 x.u) ∧ w.cell? ⟨b, off + i * 5 + 4, none⟩ = some (.string x.s)
theorem DosAt.kept {S : Nat → Prop} {w w' : World} {v : Value} {l : List DoV} (h : DosAt w v l) (hg : Moved S w w') (hS : ∀ k, S k → w.heap.size ≤ k) : DosAt w' v l := by
  obtain ⟨a0, cap, h1, h2, h3⟩ := h
  refine ⟨a0, cap, h1, h2, fun i x hx => ?_⟩
  obtain ⟨b, off, e, p⟩ := h3 i x hx
  have hb : b < w.heap.size := World.block_lt_of_cell? w ⟨b, off + i * 5, none⟩ p.1
  have hn : ¬ S b := fun hs => by have := hS b hs; omega
  exact ⟨b, off, e, hg.cell p.1 hn, hg.cell p.2.1 hn, hg.cell p.2.2.1 hn, hg.cell p.2.2.2.1 hn, hg.cell p.2.2.2.2 hn⟩
theorem DosAt.below {B : Nat} {w w' : World} {v : Value} {l : List DoV} (h : DosAt w v l) (hg : Below B w w') (hB : w.heap.size ≤ B) : DosAt w' v l :=
  h.kept (S := fun k => B ≤ k) ⟨hg.os, hg.tape, hg.output, hg.size, fun k hk hs => hg.block k (by omega)⟩ (fun k hk => by omega)
theorem cells_Dos : Try.prog.cellsOf 30 = 5 := by kernel_rfl
theorem cells_Dos_int : Try.prog.cellsOf 3 = 1 := by kernel_rfl
theorem cells_Dos_str : Try.prog.cellsOf 9 = 1 := by kernel_rfl
theorem cells_Dos_u64 : Try.prog.cellsOf 28 = 1 := by kernel_rfl
theorem open_Dos {H : Type} {enc : TypeId × Value → H} {W : World} {base : Nat} {v : Value} {d : DataW H} {p : List MemPlace} (o : Value.okWide Try.prog W .any base 22 v) (k : DataW.Trod enc Try.prog W 0 (fun _ => true) true 22 v d p) :
    ∃ l, DosAt W v l ∧ l.length ≤ 9223372036854775807 ∧ (∀ x ∈ l, DoV.ok x) := by
  obtain ⟨a0, len, cap, rfl⟩ := okWide_slice Try.underlying22 o
  obtain ⟨fuel, hf⟩ := k
  rcases Go.Deep.open_slice Try.underlying22 hf with ⟨hcs, _⟩ | ⟨a, l, c, m, n, D, Pl, hcs, _, hl, hm, hmm, _, hi⟩
  · simp [Value.cells] at hcs
    obtain ⟨rfl, rfl, rfl⟩ := hcs
    exact ⟨[], ⟨none, 0, rfl, by simp, by simp⟩, by simp, by simp⟩
  · simp [Value.cells] at hcs
    obtain ⟨rfl, rfl, rfl⟩ := hcs
    have hmc : m = cap := by simpa using hmm
    subst hmc
    have hspot : 0 < m → a.spot = none := fun h0 => by
      obtain ⟨cs', hc, _⟩ := hi 0 h0
      rw [cells_Dos] at hc
      obtain ⟨_, hcl, hat⟩ := World.cells?_some hc
      match cs', hcl with
      | [c0, c1, c2, c3, c4], _ =>
        have q0 := hat 0 (by omega)
        simpa [Addr.add] using World.cell?_spot q0
    have hel : ∀ i, i < m → ∃ x : DoV, DoV.ok x ∧ ∃ b off, a = ⟨b, off, none⟩ ∧ W.cell? ⟨b, off + i * 5, none⟩ = some (.int .i64 x.kind) ∧ W.cell? ⟨b, off + i * 5 + 1, none⟩ = some (.int .i64 x.w) ∧ W.cell? ⟨b, off + i * 5 + 2, none⟩ = some (.int .i64 x.n) ∧ W.cell? ⟨b, off + i * 5 + 3, none⟩ = some (.int .u64 x.u) ∧ W.cell? ⟨b, off + i * 5 + 4, none⟩ = some (.string x.s) := by
      intro i him
      obtain ⟨cs', hc, ht⟩ := hi i him
      rw [cells_Dos] at hc
      obtain ⟨_, hcl, hat⟩ := World.cells?_some hc
      match cs', hcl with
      | [c0, c1, c2, c3, c4], _ =>
        obtain ⟨xs, n', _, _, _, hlen, hg⟩ := DataW.trod_struct Try.underlying30 ht
        match xs, hlen with
        | [y0, y1, y2, y3, y4], _ =>
          have g0 := hg 0 _ rfl
          have g1 := hg 1 _ rfl
          have g2 := hg 2 _ rfl
          have g3 := hg 3 _ rfl
          have g4 := hg 4 _ rfl
          simp [cells_Dos_int, cells_Dos_str, cells_Dos_u64] at g0 g1 g2 g3 g4
          obtain ⟨x0, e0, _, w0⟩ := DataW.trod_int Try.underlying3 g0
          obtain ⟨x1, e1, _, w1⟩ := DataW.trod_int Try.underlying3 g1
          obtain ⟨x2, e2, _, w2⟩ := DataW.trod_int Try.underlying3 g2
          obtain ⟨x3, e3, _, w3⟩ := DataW.trod_int Try.underlying28 g3
          obtain ⟨x4, e4, _, w4⟩ := DataW.trod_string Try.underlying9 g4
          simp at e0 e1 e2 e3 e4
          subst e0 e1 e2 e3 e4
          have q0 := hat 0 (by omega)
          have q1 := hat 1 (by omega)
          have q2 := hat 2 (by omega)
          have q3 := hat 3 (by omega)
          have q4 := hat 4 (by omega)
          obtain ⟨b, off, spot⟩ := a
          obtain rfl : spot = none := hspot (by omega)
          refine ⟨⟨x0, x1, x2, x3, x4⟩, ⟨(bounds_u64 w3).1, (bounds_u64 w3).2, by unfold maxLen at w4; exact w4⟩, b, off, rfl, ?_, ?_, ?_, ?_, ?_⟩
          · by_cases h0 : i = 0
            · subst h0; simpa [Addr.add] using q0
            · have h3 : ¬ i * 5 = 0 := by omega
              simpa [Addr.add, h3] using q0
          · by_cases h0 : i = 0
            · subst h0; simpa [Addr.add] using q1
            · have h3 : ¬ i * 5 = 0 := by omega
              simpa [Addr.add, h3] using q1
          · by_cases h0 : i = 0
            · subst h0; simpa [Addr.add] using q2
            · have h3 : ¬ i * 5 = 0 := by omega
              simpa [Addr.add, h3] using q2
          · by_cases h0 : i = 0
            · subst h0; simpa [Addr.add] using q3
            · have h3 : ¬ i * 5 = 0 := by omega
              simpa [Addr.add, h3] using q3
          · by_cases h0 : i = 0
            · subst h0; simpa [Addr.add] using q4
            · have h3 : ¬ i * 5 = 0 := by omega
              simpa [Addr.add, h3] using q4
    have hex : ∃ f : Nat → DoV, ∀ i, i < m → DoV.ok (f i) ∧ ∃ b off, a = ⟨b, off, none⟩ ∧ W.cell? ⟨b, off + i * 5, none⟩ = some (.int .i64 (f i).kind) ∧ W.cell? ⟨b, off + i * 5 + 1, none⟩ = some (.int .i64 (f i).w) ∧ W.cell? ⟨b, off + i * 5 + 2, none⟩ = some (.int .i64 (f i).n) ∧ W.cell? ⟨b, off + i * 5 + 3, none⟩ = some (.int .u64 (f i).u) ∧ W.cell? ⟨b, off + i * 5 + 4, none⟩ = some (.string (f i).s) := by
      refine ⟨fun i => if h : i < m then Classical.choose (hel i h) else Classical.choice inferInstance, fun i hi' => ?_⟩
      simp only [dif_pos hi']
      exact Classical.choose_spec (hel i hi')
    obtain ⟨f, hf'⟩ := hex
    refine ⟨(List.range len).map f, ⟨some a, m, by simp, by simpa using hl, fun i x hx => ?_⟩, by simp; unfold maxLen at hm; omega, ?_⟩
    · have hi' : i < len := by have := (List.getElem?_eq_some_iff.1 hx).1; simpa using this
      have hx' : f i = x := by
        have := (List.getElem?_eq_some_iff.1 hx).2
        simpa using this
      obtain ⟨_, b, off, e, hcc⟩ := hf' i (by omega)
      rw [hx'] at hcc
      exact ⟨b, off, by rw [e], hcc⟩
    · intro x hx
      obtain ⟨i, hi', rfl⟩ := List.mem_map.1 hx
      exact (hf' i (by have := List.mem_range.1 hi'; omega)).1

theorem Grew.grownBy {w w' : World} (h : Grew w w') : w.grownBy w' none := ⟨Below.os h, Below.tape h, Below.output h, Below.size h, fun k hk _ => Below.block h k hk⟩
def CellsDo (w : World) (b off : Nat) (d : DoV) : Prop := w.cell? ⟨b, off, none⟩ = some (.int .i64 d.kind) ∧ w.cell? ⟨b, off + 1, none⟩ = some (.int .i64 d.w) ∧ w.cell? ⟨b, off + 2, none⟩ = some (.int .i64 d.n) ∧ w.cell? ⟨b, off + 3, none⟩ = some (.int .u64 d.u) ∧ w.cell? ⟨b, off + 4, none⟩ = some (.string d.s)
theorem CellsDo.below {B : Nat} {w w' : World} {b off : Nat} {d : DoV} (h : CellsDo w b off d) (hb : Below B w w') (hlt : b < B) : CellsDo w' b off d :=
  ⟨(Below.cell hb (p := ⟨b, off, none⟩) hlt).trans h.1, (Below.cell hb (p := ⟨b, off + 1, none⟩) hlt).trans h.2.1, (Below.cell hb (p := ⟨b, off + 2, none⟩) hlt).trans h.2.2.1, (Below.cell hb (p := ⟨b, off + 3, none⟩) hlt).trans h.2.2.2.1, (Below.cell hb (p := ⟨b, off + 4, none⟩) hlt).trans h.2.2.2.2⟩
theorem DosAt.nth {w : World} {v : Value} {l : List DoV} (h : DosAt w v l) (k : Nat) (hk : k < l.length) : ∃ b off c, v = .slice (some ⟨b, off, none⟩) l.length c ∧ b < w.heap.size ∧ CellsDo w b (off + k * 5) l[k] := by
  obtain ⟨a0, c, rfl, _, hc⟩ := h
  obtain ⟨b, off, rfl, p⟩ := hc k l[k] (List.getElem?_eq_getElem hk)
  exact ⟨b, off, c, rfl, World.block_lt_of_cell? w ⟨b, off + k * 5, none⟩ p.1, p⟩
theorem outS_len {w0 w : World} {p : Nat} {most : Int} {s : St} (h : Live w0 w p most s) : (outS s).length ≤ 1099511627776 := by
  obtain ⟨o, h1, h2, h3, h4⟩ := h
  unfold outS
  split
  · omega
  · simp
end Go.Proofs.Ytejaklkageieoaa
