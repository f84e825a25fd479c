/-
  Texts of the proof, part 6 of 39.
-/
import Derived.Test.YtjnpcddbgfmpcaaGreatRows
import Derived.Test.YtjnpcddbgfmpcaaGreatPAE
import Derived.Deep.Slices
import Derived.Deep.Strs
import Derived.Deep.Fields
import Derived.ChangeSame

/-
  Trees: the plain tree, what a world holds of it (read: NodeAt; owned: OwnT), and how an argument of the node's type reads. Conditions: the argument can be read as data.
-/
namespace Go.Proofs.YtjnpcddbgfmpcaaGreat
open Go Go.ChangeShapes Go.WideShapes Go.ChangeAt Go.RowKit Go.Joins Go.Deep
set_option linter.unusedVariables false
set_option linter.unusedSimpArgs false
inductive Tr where
  | mk (k n u : Int) (s : ByteArray) (keys : List ByteArray) (l : List Tr)
def Tr.kind : Tr → Int | .mk k _ _ _ _ _ => k
def Tr.keys : Tr → List ByteArray | .mk _ _ _ _ ks _ => ks
mutual
def Tr.size : Tr → Nat | .mk _ _ _ _ _ l => sizeL l + 1
def sizeL : List Tr → Nat | [] => 0 | t :: r => t.size + sizeL r
end
def i64ok (x : Int) : Prop := -9223372036854775808 ≤ x ∧ x ≤ 9223372036854775807
def u64ok (x : Int) : Prop := 0 ≤ x ∧ x ≤ 18446744073709551615
def lenok (n : Nat) : Prop := n ≤ 9223372036854775807
def TxtsAt (w : World) (v : Value) (l : List ByteArray) : Prop :=
  ∃ a c, v = .slice a l.length c ∧ l.length ≤ c ∧ lenok c ∧ (a = none → c = 0) ∧ ∀ i s, l[i]? = some s → lenok s.size ∧ ∃ b off, a = some ⟨b, off, none⟩ ∧ w.cell? ⟨b, off + i, none⟩ = some (.string s)
def Cells6 (w : World) (b off : Nat) (v : Value) : Prop :=
  ∃ c0 c1 c2 c3 c4 c5, v = .agg #[c0, c1, c2, c3, c4, c5] ∧ w.cell? ⟨b, off, none⟩ = some c0 ∧ w.cell? ⟨b, off + 1, none⟩ = some c1 ∧ w.cell? ⟨b, off + 2, none⟩ = some c2 ∧ w.cell? ⟨b, off + 3, none⟩ = some c3 ∧ w.cell? ⟨b, off + 4, none⟩ = some c4 ∧ w.cell? ⟨b, off + 5, none⟩ = some c5
def RowsAt (w : World) (v : Value) (vs : List Value) : Prop :=
  ∃ a c, v = .slice a vs.length c ∧ vs.length ≤ c ∧ lenok c ∧ (a = none → c = 0) ∧ ∀ i x, vs[i]? = some x → ∃ b off, a = some ⟨b, off, none⟩ ∧ Cells6 w b (off + i * 6) x
mutual
def NodeAt (w : World) : Tr → Value → Prop
  | .mk k n u s keys l, v => (i64ok k ∧ i64ok n ∧ u64ok u ∧ lenok s.size) ∧ ∃ kv lv vs, v = .agg #[.int .i64 k, .int .i64 n, .int .u64 u, .string s, kv, lv] ∧ TxtsAt w kv keys ∧ RowsAt w lv vs ∧ KidsAt w l vs
def KidsAt (w : World) : List Tr → List Value → Prop
  | [], vs => vs = []
  | t :: r, vs => ∃ v vr, vs = v :: vr ∧ NodeAt w t v ∧ KidsAt w r vr
end
section
variable {w w' : World} {v : Value} {vs : List Value} {t : Tr} {l : List Tr}
theorem TxtsAt.grew {ks : List ByteArray} (h : TxtsAt w v ks) (hg : Grew w w') : TxtsAt w' v ks := by
  obtain ⟨a, c, h1, h2, h3, h4, h5⟩ := h
  refine ⟨a, c, h1, h2, h3, h4, fun i s hs => ?_⟩
  obtain ⟨hz, b, off, e, hc⟩ := h5 i s hs
  exact ⟨hz, b, off, e, hg.cell hc⟩
theorem Cells6.grew {b off : Nat} (h : Cells6 w b off v) (hg : Grew w w') : Cells6 w' b off v := by
  obtain ⟨c0, c1, c2, c3, c4, c5, e, h0, h1, h2, h3, h4, h5⟩ := h
  exact ⟨c0, c1, c2, c3, c4, c5, e, hg.cell h0, hg.cell h1, hg.cell h2, hg.cell h3, hg.cell h4, hg.cell h5⟩
theorem RowsAt.grew (h : RowsAt w v vs) (hg : Grew w w') : RowsAt w' v vs := by
  obtain ⟨a, c, h1, h2, h3, h4, h5⟩ := h
  refine ⟨a, c, h1, h2, h3, h4, fun i x hx => ?_⟩
  obtain ⟨b, off, e, hc⟩ := h5 i x hx
  exact ⟨b, off, e, hc.grew hg⟩
mutual
theorem NodeAt.grew (hg : Grew w w') : ∀ {t : Tr} {v : Value}, NodeAt w t v → NodeAt w' t v
  | .mk k n u s keys l, v, ⟨hb, kv, lv, vs, e, h1, h2, h3⟩ => ⟨hb, kv, lv, vs, e, h1.grew hg, h2.grew hg, KidsAt.grew hg h3⟩
theorem KidsAt.grew (hg : Grew w w') : ∀ {l : List Tr} {vs : List Value}, KidsAt w l vs → KidsAt w' l vs
  | [], _, h => h
  | t :: r, _, ⟨v, vr, e, h1, h2⟩ => ⟨v, vr, e, NodeAt.grew hg h1, KidsAt.grew hg h2⟩
end
theorem KidsAt.length (h : KidsAt w l vs) : vs.length = l.length := by
  induction l generalizing vs with
  | nil => simp only [KidsAt] at h; subst h; rfl
  | cons t r ih =>
    simp only [KidsAt] at h
    obtain ⟨v, vr, rfl, _, h2⟩ := h
    simp [ih h2]
theorem KidsAt.mk (hl : vs.length = l.length) (h : ∀ (i : Nat) (x : Tr) (v : Value), l[i]? = some x → vs[i]? = some v → NodeAt w x v) : KidsAt w l vs := by
  induction l generalizing vs with
  | nil => simp only [KidsAt]; exact List.length_eq_zero_iff.1 hl
  | cons t r ih =>
    cases vs with
    | nil => simp at hl
    | cons v vr =>
      simp only [KidsAt]
      exact ⟨v, vr, rfl, h 0 t v rfl rfl, ih (by simpa using hl) (fun i x v hx hv => h (i + 1) x v (by simpa using hx) (by simpa using hv))⟩
end
/-! ### how an argument reads -/
set_option maxRecDepth 100000 in
theorem cells_nstr : Tryz.prog.cellsOf 9 = 1 := by kernel_rfl
theorem add_off (a : Addr) (b off i : Nat) (h : a = ⟨b, off, none⟩) : a.add i = ⟨b, off + i, none⟩ := by
  subst h
  by_cases h0 : i = 0
  · subst h0; simp [Addr.add]
  · simp [Addr.add, h0]
section
variable {H : Type} {enc : TypeId × Value → H} {W : World}
theorem strs_of_trod {fuel : Nat} {cs : List Value} {x : DataW H × List MemPlace} (h : DataW.trod enc Tryz.prog W 0 (fun _ => true) true fuel 34 cs = some x) : ∃ v l, cs = [v] ∧ TxtsAt W v l := by
  rcases Go.Deep.open_strs Tryz.underlying34 Tryz.underlying9 cells_nstr h with ⟨rfl, _⟩ | ⟨a, len, cap, m, Sx, rfl, _, hl, hm, hmm, _, hi⟩
  · exact ⟨_, [], rfl, none, 0, rfl, by simp, by unfold lenok; omega, fun _ => rfl, by simp⟩
  · have hmc : m = cap := by simpa using hmm
    subst hmc
    refine ⟨_, (List.range len).map Sx, rfl, some a, m, by simp, by simpa using hl, by unfold maxLen at hm; exact hm, (fun h => by cases h), fun i s hs => ?_⟩
    have hil : i < len := by have := (List.getElem?_eq_some_iff.1 hs).1; simpa using this
    have hsx : Sx i = s := by have := (List.getElem?_eq_some_iff.1 hs).2; simpa using this
    obtain ⟨hc, hz⟩ := hi i (by omega)
    rw [hsx] at hc hz
    have h0 := (hi 0 (by omega)).1
    obtain ⟨b, off, spot⟩ := a
    obtain rfl : spot = none := by simpa [Addr.add] using World.cell?_spot h0
    exact ⟨hz, b, off, rfl, by rw [add_off _ b off i rfl] at hc; exact hc⟩
theorem i64_of {q : Int} (h : (Lit.int .i64 q).wf = true) : i64ok q := bounds_i64 h
theorem u64_of {q : Int} (h : (Lit.int .u64 q).wf = true) : u64ok q := by
  simp [Lit.wf, IntKind.min, IntKind.max, IntKind.signed, IntKind.bits] at h
  unfold u64ok
  omega
end
end Go.Proofs.YtjnpcddbgfmpcaaGreat
