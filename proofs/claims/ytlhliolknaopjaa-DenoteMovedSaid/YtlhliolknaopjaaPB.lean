/-
  Texts of the proof, part 2 of 9.
-/
import Derived.Test.YtlhliolknaopjaaPA
import Derived.Deep.QuietTactic
import Derived.BigQuiet
import Derived.Lib.SliceRun

/-
  Trees: shortening a tree, plain; children collected into a row of one's own.
-/
namespace Go.Proofs.Ytlhliolknaopjaa
open Go Go.ChangeShapes Go.WideShapes Go.ChangeAt Go.RowKit Go.Joins Go.Deep
set_option linter.unusedVariables false
set_option linter.unusedSimpArgs false

mutual
def cutTr (long : Nat) : Nat → Tr → Tr × Nat
  | left, .mk k n u s keys l => (.mk k n u (shortS s long) (textsS keys 64 long) (cutTrs long left l).1, (cutTrs long left l).2)
def cutTrs (long : Nat) : Nat → List Tr → List Tr × Nat
  | left, [] => ([], left)
  | left, t :: r => if left = 0 then ([], 0) else ((cutTr long (left - 1) t).1 :: (cutTrs long (cutTr long (left - 1) t).2 r).1, (cutTrs long (cutTr long (left - 1) t).2 r).2)
end
theorem cutTrs_zero (long : Nat) (l : List Tr) : cutTrs long 0 l = ([], 0) := by cases l <;> simp [cutTrs]
theorem cutTrs_snoc (long : Nat) (l : List Tr) (t : Tr) : ∀ left, cutTrs long left (l ++ [t]) =
    if (cutTrs long left l).2 = 0 then cutTrs long left l else ((cutTrs long left l).1 ++ [(cutTr long ((cutTrs long left l).2 - 1) t).1], (cutTr long ((cutTrs long left l).2 - 1) t).2) := by
  induction l with
  | nil => intro left; by_cases h : left = 0 <;> simp [cutTrs, h]
  | cons x r ih =>
    intro left
    rw [List.cons_append, cutTrs, cutTrs]
    by_cases h : left = 0
    · simp [h]
    · rw [if_neg h, if_neg h, ih]
      by_cases h2 : (cutTrs long (cutTr long (left - 1) x).2 r).2 = 0
      · rw [if_pos h2, if_pos h2]
      · rw [if_neg h2, if_neg h2]
        simp
theorem cutTrs_stop (long : Nat) (l r : List Tr) (left : Nat) (h : (cutTrs long left l).2 = 0) : cutTrs long left (l ++ r) = cutTrs long left l := by
  induction r generalizing l with
  | nil => simp
  | cons x r ih =>
    have e : l ++ x :: r = (l ++ [x]) ++ r := by simp
    have h2 : cutTrs long left (l ++ [x]) = cutTrs long left l := by rw [cutTrs_snoc, if_pos h]
    rw [e, ih (l ++ [x]) (by rw [h2]; exact h), h2]
mutual
theorem cutTr_size (long : Nat) : ∀ (t : Tr) (left : Nat), (cutTr long left t).1.size + (cutTr long left t).2 ≤ left + 1
  | .mk k n u s keys l, left => by
    have := cutTrs_size long l left
    simp only [cutTr, Tr.size]
    omega
theorem cutTrs_size (long : Nat) : ∀ (l : List Tr) (left : Nat), sizeL (cutTrs long left l).1 + (cutTrs long left l).2 ≤ left
  | [], left => by simp [cutTrs, sizeL]
  | t :: r, left => by
    rw [cutTrs]
    by_cases h : left = 0
    · simp [h, sizeL]
    · rw [if_neg h]
      have h1 := cutTr_size long t (left - 1)
      have h2 := cutTrs_size long r (cutTr long (left - 1) t).2
      simp only [sizeL]
      omega
end

/-- Children collected since W: the row and the trees in it, in new blocks. -/
def Grow (R : Nat → Prop) (W w : World) (v : Value) (ts : List Tr) : Prop :=
  ∃ vs S, OwnN w W.heap.size v vs ∧ KidsO w W.heap.size ts vs S ∧ (∀ g, S g → W.heap.size ≤ g ∧ g < w.heap.size ∧ v.ownBlock ≠ some g) ∧ Moved R W w
theorem Grow.start (R : Nat → Prop) (W : World) : Grow R W W (.slice none 0 0) [] :=
  ⟨[], fun _ => False, OwnN.nil _ _, rfl, fun _ h => h.elim, Moved.refl _ _⟩
theorem Grow.form {R : Nat → Prop} {W w : World} {v : Value} {ts : List Tr} (h : Grow R W w v ts) : ∃ a c, v = .slice a ts.length c ∧ ts.length ≤ c ∧ lenok c ∧ (a = none → c = 0) := by
  obtain ⟨vs, S, h1, h2, _⟩ := h
  have := rows_form h1.1
  rwa [h2.length] at this
theorem Grow.step {R : Nat → Prop} {W wr w2 w3 : World} {v v' xv : Value} {ts : List Tr} {x : Tr} (hR : ∀ g, R g → g < W.heap.size) (vs : List Value) (S : Nat → Prop) (h2 : KidsO wr W.heap.size ts vs S) (h1 : OwnN wr W.heap.size v vs)
    (h3 : ∀ g, S g → W.heap.size ≤ g ∧ g < wr.heap.size ∧ v.ownBlock ≠ some g) (h4 : Moved R W wr)
    (hx : OwnT w2 wr.heap.size x xv (Fresh wr w2)) (hm : Moved R wr w2) (o : Obj) (hown : OwnN w3 W.heap.size v' (vs ++ [xv])) (hgr : (w2.alloc o).grownBy w3 v.ownBlock) (hn : Next (w2.alloc o) v.ownBlock v'.ownBlock) : Grow R W w3 v' (ts ++ [x]) := by
  have hm3 : Moved (fun k => some k = v.ownBlock) (w2.alloc o) w3 := Moved.of_grown hgr
  have hga : Grew w2 (w2.alloc o) := (Grew.refl w2).alloc o
  have hlt : ∀ g, v.ownBlock = some g → W.heap.size ≤ g ∧ g < wr.heap.size := fun g hg => World.ownsRow.lt h1.1 g hg
  have hs2 : wr.heap.size ≤ w2.heap.size := hm.size
  have hs3 : w2.heap.size ≤ (w2.alloc o).heap.size := hga.size
  have hs4 : (w2.alloc o).heap.size ≤ w3.heap.size := hm3.size
  have hWr : W.heap.size ≤ wr.heap.size := h4.size
  have k1 : KidsO w3 W.heap.size ts vs S := ((h2.kept hm (fun g hg hr => by have := (h3 g hg).1; have := hR g hr; omega)).grew hga).kept hm3 (fun g hg e => (h3 g hg).2.2 e.symm)
  have k2 : OwnT w3 W.heap.size x xv (Fresh wr w2) := ((hx.grew hga).kept hm3 (fun g hg e => by have := hlt g e.symm; have := hg.1; omega)).base hWr
  refine ⟨vs ++ [xv], fun g => S g ∨ Fresh wr w2 g, hown, k1.app (KidsO.one k2) (fun g hg hh => by have := (h3 g hg).2.1; have := hh.1; omega), fun g hg => ?_, ?_⟩
  · have hb : W.heap.size ≤ g ∧ g < w2.heap.size := by
      rcases hg with hg | hg
      · have := h3 g hg; omega
      · exact ⟨Nat.le_trans hWr hg.1, hg.2⟩
    refine ⟨hb.1, by omega, fun e => ?_⟩
    rcases hn g e with e | e
    · rcases hg with hg | hg
      · exact (h3 g hg).2.2 e
      · have := hlt g e; have := hg.1; omega
    · omega
  · exact ((h4.trans' hm).grew hga).trans hm3 fun j hj e => by have := hlt j e.symm; omega
/-- A tree out of what was collected. -/
theorem Grow.tree {R : Nat → Prop} {w0 W w : World} {v kv : Value} {ts : List Tr} {k n u : Int} {s : ByteArray} {keys : List ByteArray} (h : Grow R W w v ts) (hb : i64ok k ∧ i64ok n ∧ u64ok u ∧ lenok s.size ∧ ∀ x ∈ keys, lenok x.size)
    (h0 : w0.heap.size ≤ W.heap.size) (hk : OwnS w w0.heap.size kv keys) (hkW : ∀ g, kv.ownBlock = some g → g < W.heap.size) :
    OwnT w w0.heap.size (.mk k n u s keys ts) (.agg #[.int .i64 k, .int .i64 n, .int .u64 u, .string s, kv, v]) (Fresh w0 w) := by
  obtain ⟨vs, S, h1, h2, h3, h4⟩ := h
  simp only [OwnT]
  refine ⟨hb, kv, v, vs, S, rfl, hk, ⟨rows_base h1.1 h0, h1.2⟩, fun g hg => ⟨?_, fun hs => ?_⟩, fun g hg => ⟨?_, fun hs => (h3 g hs).2.2 hg⟩, fun g hg hg2 => ?_, fun g hg => ?_, h2.base h0⟩
  · have := World.ownsRow.lt hk g hg; exact ⟨this.1, this.2⟩
  · have := (h3 g hs).1; have := hkW g hg; omega
  · have := World.ownsRow.lt h1.1 g hg; exact ⟨by omega, this.2⟩
  · have := World.ownsRow.lt h1.1 g hg2; have := hkW g hg; omega
  · have := h3 g hg; exact ⟨by omega, this.2.1⟩
theorem Grow.kept {R T : Nat → Prop} {W w w' : World} {v : Value} {ts : List Tr} (h : Grow R W w v ts) (hm : Moved T w w') (hT : ∀ g, T g → g < W.heap.size) (hRT : ∀ g, T g → R g) : Grow R W w' v ts := by
  obtain ⟨vs, S, h1, h2, h3, h4⟩ := h
  refine ⟨vs, S, ⟨Moved.owns hm h1.1 (fun g hg ht => by have := World.ownsRow.lt h1.1 g hg; have := hT g ht; omega), h1.2⟩, h2.kept hm (fun g hg ht => by have := (h3 g hg).1; have := hT g ht; omega), fun g hg => ?_, h4.trans hm (fun g _ ht => hRT g ht)⟩
  have := h3 g hg
  have := hm.size
  exact ⟨by omega, by omega, (h3 g hg).2.2⟩
theorem Grow.wider {R T : Nat → Prop} {W w : World} {v : Value} {ts : List Tr} (h : Grow R W w v ts) (hRT : ∀ g, R g → T g) : Grow T W w v ts := by
  obtain ⟨vs, S, h1, h2, h3, h4⟩ := h
  exact ⟨vs, S, h1, h2, h3, h4.mono (fun g _ hg => hRT g hg)⟩
end Go.Proofs.Ytlhliolknaopjaa

/-
  Trees: the reference's copy. Conditions: the node lies in memory; rows of at most 4096.
-/
namespace Go.Proofs.Ytlhliolknaopjaa
open Go Go.ChangeShapes Go.WideShapes Go.ChangeAt Go.RowKit Go.Joins Go.Deep
set_option linter.unusedVariables false
set_option linter.unusedSimpArgs false

mutual
def Few : Tr → Prop | .mk _ _ _ _ keys l => keys.length ≤ 4096 ∧ l.length ≤ 4096 ∧ FewL l
def FewL : List Tr → Prop | [] => True | t :: r => Few t ∧ FewL r
end
theorem FewL.mem {l : List Tr} (h : FewL l) {x : Tr} (hx : x ∈ l) : Few x := by
  induction l with
  | nil => cases hx
  | cons t r ih =>
    simp only [FewL] at h
    rcases List.mem_cons.1 hx with rfl | hx
    · exact h.1
    · exact ih h.2 hx
theorem heap_store6 {w : World} {g : Nat} {a b c d e f : Value} {t : TypeId} (h : w.heap[g]? = some (.cells #[a, b, c, d, e, f] t (0, 0))) (a' b' c' d' e' f' : Value) :
    ((((((w.setCell ⟨g, 0, none⟩ a').setCell ⟨g, 1, none⟩ b').setCell ⟨g, 2, none⟩ c').setCell ⟨g, 3, none⟩ d').setCell ⟨g, 4, none⟩ e').setCell ⟨g, 5, none⟩ f').heap[g]? = some (.cells #[a', b', c', d', e', f'] t (0, 0)) := by
  have h1 := heap_setCell_same w g 0 _ _ a' h
  have h2 := heap_setCell_same _ g 1 _ _ b' h1
  have h3 := heap_setCell_same _ g 2 _ _ c' h2
  have h4 := heap_setCell_same _ g 3 _ _ d' h3
  have h5 := heap_setCell_same _ g 4 _ _ e' h4
  have h6 := heap_setCell_same _ g 5 _ _ f' h5
  simpa using h6
theorem moved_store6 (w : World) (g : Nat) (a' b' c' d' e' f' : Value) :
    Moved (fun k => k = g) w ((((((w.setCell ⟨g, 0, none⟩ a').setCell ⟨g, 1, none⟩ b').setCell ⟨g, 2, none⟩ c').setCell ⟨g, 3, none⟩ d').setCell ⟨g, 4, none⟩ e').setCell ⟨g, 5, none⟩ f') :=
  Moved.setCell (S := fun k => k = g) (p := ⟨g, 5, none⟩) (Moved.setCell (S := fun k => k = g) (p := ⟨g, 4, none⟩) (Moved.setCell (S := fun k => k = g) (p := ⟨g, 3, none⟩) (Moved.setCell (S := fun k => k = g) (p := ⟨g, 2, none⟩) (Moved.setCell (S := fun k => k = g) (p := ⟨g, 1, none⟩) (Moved.setCell (S := fun k => k = g) (p := ⟨g, 0, none⟩) (Moved.refl _ w) (fun _ => rfl) _) (fun _ => rfl) _) (fun _ => rfl) _) (fun _ => rfl) _) (fun _ => rfl) _) (fun _ => rfl) _
/-- Six stores, the cells of one node. -/
abbrev store6 (w : World) (g : Nat) (a' b' c' d' e' f' : Value) : World := ((((((w.setCell ⟨g, 0, none⟩ a').setCell ⟨g, 1, none⟩ b').setCell ⟨g, 2, none⟩ c').setCell ⟨g, 3, none⟩ d').setCell ⟨g, 4, none⟩ e').setCell ⟨g, 5, none⟩ f')
theorem moved_close (w : World) (g r : Nat) (a b c d e f : Value) (x : Value) : Moved (fun k => k = g ∨ k = r) w (store6 (w.setCell ⟨g, 5, none⟩ x) r a b c d e f) :=
  (Moved.setCell (S := fun k => k = g ∨ k = r) (p := ⟨g, 5, none⟩) (Moved.refl _ w) (fun _ => .inl rfl) x).trans (moved_store6 _ r a b c d e f) (fun _ _ h => .inr h)
/-- Writes to new blocks alone. -/
theorem Moved.fresh {S : Nat → Prop} {w0 w w' : World} (hg : Grew w0 w) (h : Moved S w w') (hS : ∀ g, S g → w0.heap.size ≤ g) : Grew w0 w' :=
  Below.trans hg (h.below hg.size hS)
theorem NodeAt.node6 {w : World} {t : Tr} {v : Value} (h : NodeAt w t v) : Node6 v := by
  cases t
  simp only [NodeAt] at h
  obtain ⟨_, kv, lv, vs, rfl, ⟨a4, c4, rfl, _⟩, ⟨a5, c5, rfl, _⟩, _⟩ := h
  exact ⟨_, _, _, _, _, _, _, _, _, _, rfl⟩
theorem Cells6.get {w : World} {b o : Nat} {x0 x1 x2 x3 x4 x5 : Value} (h : Cells6 w b o (.agg #[x0, x1, x2, x3, x4, x5])) :
    w.cell? ⟨b, o, none⟩ = some x0 ∧ w.cell? ⟨b, o + 1, none⟩ = some x1 ∧ w.cell? ⟨b, o + 2, none⟩ = some x2 ∧ w.cell? ⟨b, o + 3, none⟩ = some x3 ∧ w.cell? ⟨b, o + 4, none⟩ = some x4 ∧ w.cell? ⟨b, o + 5, none⟩ = some x5 := by
  obtain ⟨c0, c1, c2, c3, c4, c5, e, h⟩ := h
  injection e with e
  injection e with e
  simp at e
  obtain ⟨rfl, rfl, rfl, rfl, rfl, rfl⟩ := e
  exact h
/-- Two rows of different types are two blocks. -/
theorem not_block {w : World} {B : Nat} {e t : TypeId} {size n : Nat} {v : Value} {xs : List Value} (h : w.ownsRow B e size v n xs) {g : Nat} {cs : Array Value} (hg : w.heap[g]? = some (.cells cs t (0, 0))) (he : e ≠ t) : v.ownBlock ≠ some g := by
  intro hv
  rcases h.2 with ⟨rfl, _⟩ | ⟨g2, cap, cur, rfl, _, h2, _⟩
  · cases hv
  · have : g2 = g := by injection hv
    subst this
    rw [hg] at h2
    injection h2 with h2
    injection h2 with _ h2
    exact he h2.symm
end Go.Proofs.Ytlhliolknaopjaa

/-
  Trees: the laws' shortened copy (Cut). Conditions: the node lies in memory.
-/
namespace Go.Proofs.Ytlhliolknaopjaa
open Go Go.ChangeShapes Go.WideShapes Go.ChangeAt Go.RowKit Go.Joins Go.Deep
set_option linter.unusedVariables false
set_option linter.unusedSimpArgs false

/-- The room's block. -/
def roomR (left long : Nat) : Obj := .cells #[.int .i64 left, .int .i64 long] 65 (0, 0)
theorem roomR_set {w : World} {rb left long : Nat} (h : w.heap[rb]? = some (roomR left long)) (p : Nat) : (w.setCell ⟨rb, 0, none⟩ (.int .i64 p)).heap[rb]? = some (roomR p long) := by
  have := heap_setCell_same w rb 0 _ _ (.int .i64 p) h
  simpa [roomR] using this
theorem cutTrs_end (long left : Nat) (l : List Tr) (k : Nat) (h : k = l.length ∨ (cutTrs long left (l.take k)).2 = 0) : cutTrs long left (l.take k) = cutTrs long left l := by
  rcases h with rfl | h
  · rw [List.take_length]
  · have := cutTrs_stop long (l.take k) (l.drop k) left h
    rw [List.take_append_drop] at this
    exact this.symm
theorem cutTrs_next (long left : Nat) (l : List Tr) (k p : Nat) (x : Tr) (hx : l[k]? = some x) (h : (cutTrs long left (l.take k)).2 = p + 1) :
    cutTrs long left (l.take (k + 1)) = ((cutTrs long left (l.take k)).1 ++ [(cutTr long p x).1], (cutTr long p x).2) := by
  rw [List.take_add_one, hx]
  show cutTrs long left (l.take k ++ [x]) = _
  rw [cutTrs_snoc, if_neg (by omega), h]
  rfl
theorem textsS_lenok {l : List ByteArray} (h : ∀ s ∈ l, lenok s.size) (many long : Nat) : ∀ s ∈ textsS l many long, lenok s.size := by
  intro s hs
  obtain ⟨y, hy, rfl⟩ := List.mem_map.1 hs
  have := h y (List.mem_of_mem_take hy)
  unfold lenok at *
  rw [shortS_size]
  omega
theorem shortS_lenok {s : ByteArray} (h : lenok s.size) (long : Nat) : lenok (shortS s long).size := by unfold lenok at *; rw [shortS_size]; omega
set_option maxRecDepth 100000 in
set_option maxHeartbeats 4000000 in
theorem roomcut_any (long : Nat) (hlong : long ≤ 1000) (W : World) (rb : Nat) (hWrb : W.heap.size ≤ rb) : ∀ (m : Nat) (t : Tr), t.size ≤ m → ∀ (v : Value) (w : World) (left : Nat), left ≤ 4096 → NodeAt W t v → Grew W w → w.heap[rb]? = some (roomR left long) →
    Calls Try.prog 42 #[bptr rb, v] w fun r w' => ∃ v', r = .returned v' ∧ OwnT w' w.heap.size (cutTr long left t).1 v' (Fresh w w') ∧ Moved (fun g => g = rb) w w' ∧ w'.heap[rb]? = some (roomR (cutTr long left t).2 long) := by
  intro m
  induction m with
  | zero => intro t ht; have := t.size_pos; omega
  | succ m ih =>
  intro t ht v w left hleft hn hW hrb
  obtain ⟨k, n, u, s, keys, l⟩ := t
  simp only [NodeAt] at hn
  obtain ⟨hb, kv, lv, vs, rfl, hks, hrows, hkids⟩ := hn
  have hkl : vs.length = l.length := hkids.length
  have HKS := Lib.hid hks
  have HK := Lib.hid hkids
  have HB := Lib.hid hb
  obtain ⟨a4, c4, rfl, hx1, hx2, hx3, hx4⟩ := hks
  clear hx1 hx2 hx3 hx4
  have HROWS := Lib.hid hrows
  obtain ⟨a5, c5, rfl, hll, hc5, hx3, hx4⟩ := hrows
  rw [hkl] at HROWS hll ⊢
  have hlen : l.length ≤ 9223372036854775807 := by unfold lenok at hc5; omega
  clear hx3 hx4 hll
  have hkz : Hid (∀ x ∈ keys, lenok x.size) := fun x hx => by
    obtain ⟨_, _, _, _, _, _, h⟩ := HKS.out
    obtain ⟨i, hi, rfl⟩ := List.mem_iff_getElem.1 hx
    exact (h i _ (List.getElem?_eq_getElem hi)).1
  have hsz : ∀ x ∈ l, x.size ≤ m := fun x hx => by have := size_mem hx; simp only [Tr.size] at ht; omega
  have HSZ := Lib.hid hsz
  have HW0 := Lib.hid hW
  clear hkids hb hsz ht hkl hc5 hW
  go_enter Try.func42, Try.ntmps42
  go_wp2_with fail
  have hb1 := heap_alloc_new w (.cells #[.int .i64 k, .int .i64 n, .int .u64 u, .string s, .slice a4 keys.length c4, .slice a5 l.length c5] 27)
  have hg1 := (Grew.refl w).alloc (.cells #[.int .i64 k, .int .i64 n, .int .u64 u, .string s, .slice a4 keys.length c4, .slice a5 l.length c5] 27)
  have hs1 : (w.alloc (.cells #[.int .i64 k, .int .i64 n, .int .u64 u, .string s, .slice a4 keys.length c4, .slice a5 l.length c5] 27)).heap.size = w.heap.size + 1 := World.size_alloc _ _
  generalize (w.alloc (.cells #[.int .i64 k, .int .i64 n, .int .u64 u, .string s, .slice a4 keys.length c4, .slice a5 l.length c5] 27)) = w1 at *
  have hb2 := heap_alloc_new w1 (.cells #[.int .i64 0, .int .i64 0, .int .u64 0, .string ⟨#[]⟩, .slice none 0 0, .slice none 0 0] 27)
  have hg2 := (Grew.refl w1).alloc (.cells #[.int .i64 0, .int .i64 0, .int .u64 0, .string ⟨#[]⟩, .slice none 0 0, .slice none 0 0] 27)
  have hs2 : (w1.alloc (.cells #[.int .i64 0, .int .i64 0, .int .u64 0, .string ⟨#[]⟩, .slice none 0 0, .slice none 0 0] 27)).heap.size = w1.heap.size + 1 := World.size_alloc _ _
  rw [hs1] at hb2 hs2
  generalize (w1.alloc (.cells #[.int .i64 0, .int .i64 0, .int .u64 0, .string ⟨#[]⟩, .slice none 0 0, .slice none 0 0] 27)) = w2 at *
  replace hb1 := hg2.heap hb1
  have hG := hg1.trans hg2
  have hs2' : w2.heap.size = w.heap.size + 2 := by omega
  obtain ⟨N, hN⟩ : ∃ N, w.heap.size = N := ⟨_, rfl⟩
  have hrbN : Hid (rb < N) := by show _ < _; rw [← hN]; exact (Array.getElem?_eq_some_iff.1 hrb).1
  replace hrb := hG.heap hrb
  rw [hN] at hb1 hb2 hs2' ⊢
  have hB2 : Hid (N + 2 ≤ w2.heap.size) := by show _ ≤ _; omega
  have c0 := row_cellT hb1 0 _ rfl
  have c1 := row_cellT hb1 1 _ rfl
  have c2 := row_cellT hb1 2 _ rfl
  have c3 := row_cellT hb1 3 _ rfl
  have c4' := row_cellT hb1 4 _ rfl
  have r1 := row_cellT hrb 1 _ rfl
  have HB1 := Lib.hid hb1
  have HB2 := Lib.hid hb2
  have HRB := Lib.hid hrb
  have HG := Lib.hid hG
  have HS2 := Lib.hid hs2'
  have HN := Lib.hid hN
  have hsl : Hid (lenok s.size) := HB.out.2.2.2
  clear hb1 hb2 hG hs1 hs2 hs2' hg1 hg2 hN hrb
  refine wp_region_last Grew [[], [0], [], [2], [], [4], [], [6], [], [8], [9], [10], [7, 11], [], [13], [], [15], [16], [17], [14, 18], [1, 3, 5, 12, 19], [], [20, 21]] [[(10, 2), (11, 3), (12, 4), (13, 5), (14, 6), (15, 7), (16, 8), (17, 9), (18, 10), (19, 11), (20, 12), (21, 13), (22, 14), (23, 15), (24, 16), (25, 17), (26, 18), (27, 19), (28, 20), (5, 21)], [(8, 0), (10, 2), (11, 3), (12, 4), (13, 5), (14, 6), (15, 7), (16, 8), (17, 9), (18, 10), (19, 11), (20, 12), (21, 13), (22, 14), (23, 15), (24, 16), (25, 17), (26, 18), (27, 19), (5, 21)], [(8, 0), (9, 1), (12, 4), (13, 5), (14, 6), (15, 7), (16, 8), (17, 9), (18, 10), (19, 11), (20, 12), (21, 13), (22, 14), (23, 15), (24, 16), (25, 17), (26, 18), (27, 19), (28, 20), (5, 21)], [(8, 0), (9, 1), (10, 2), (12, 4), (13, 5), (14, 6), (15, 7), (16, 8), (17, 9), (18, 10), (19, 11), (20, 12), (21, 13), (22, 14), (23, 15), (24, 16), (25, 17), (26, 18), (27, 19), (5, 21)], [(8, 0), (9, 1), (10, 2), (11, 3), (14, 6), (15, 7), (16, 8), (17, 9), (18, 10), (19, 11), (20, 12), (21, 13), (22, 14), (23, 15), (24, 16), (25, 17), (26, 18), (27, 19), (28, 20), (5, 21)], [(8, 0), (9, 1), (10, 2), (11, 3), (12, 4), (14, 6), (15, 7), (16, 8), (17, 9), (18, 10), (19, 11), (20, 12), (21, 13), (22, 14), (23, 15), (24, 16), (25, 17), (26, 18), (27, 19), (5, 21)], [(8, 0), (9, 1), (10, 2), (11, 3), (12, 4), (13, 5), (16, 8), (17, 9), (18, 10), (19, 11), (20, 12), (21, 13), (22, 14), (23, 15), (24, 16), (25, 17), (26, 18), (27, 19), (28, 20), (5, 21)], [(8, 0), (9, 1), (10, 2), (11, 3), (12, 4), (13, 5), (14, 6), (16, 8), (17, 9), (18, 10), (19, 11), (21, 13), (22, 14), (23, 15), (24, 16), (25, 17), (26, 18), (27, 19), (28, 20), (5, 21)], [(8, 0), (9, 1), (10, 2), (11, 3), (12, 4), (13, 5), (14, 6), (15, 7), (18, 10), (19, 11), (20, 12), (21, 13), (22, 14), (23, 15), (24, 16), (25, 17), (26, 18), (27, 19), (28, 20), (5, 21)], [(8, 0), (9, 1), (10, 2), (11, 3), (12, 4), (13, 5), (14, 6), (15, 7), (16, 8), (19, 11), (20, 12), (21, 13), (22, 14), (23, 15), (24, 16), (25, 17), (26, 18), (27, 19), (28, 20), (5, 21)], [(8, 0), (9, 1), (10, 2), (11, 3), (12, 4), (13, 5), (14, 6), (15, 7), (16, 8), (17, 9), (20, 12), (21, 13), (22, 14), (23, 15), (24, 16), (25, 17), (26, 18), (27, 19), (28, 20), (5, 21)], [(8, 0), (9, 1), (10, 2), (11, 3), (12, 4), (13, 5), (14, 6), (15, 7), (16, 8), (17, 9), (18, 10), (21, 13), (22, 14), (23, 15), (24, 16), (25, 17), (26, 18), (27, 19), (28, 20), (5, 21)], [(8, 0), (9, 1), (10, 2), (11, 3), (12, 4), (13, 5), (14, 6), (15, 7), (16, 8), (17, 9), (18, 10), (19, 11), (21, 13), (22, 14), (23, 15), (24, 16), (25, 17), (26, 18), (27, 19), (5, 21)], [(8, 0), (9, 1), (10, 2), (11, 3), (12, 4), (13, 5), (14, 6), (15, 7), (16, 8), (17, 9), (18, 10), (19, 11), (20, 12), (23, 15), (24, 16), (25, 17), (26, 18), (27, 19), (28, 20), (5, 21)], [(8, 0), (9, 1), (10, 2), (11, 3), (12, 4), (13, 5), (14, 6), (15, 7), (16, 8), (17, 9), (18, 10), (19, 11), (20, 12), (21, 13), (23, 15), (24, 16), (25, 17), (26, 18), (28, 20), (5, 21)], [(8, 0), (9, 1), (10, 2), (11, 3), (12, 4), (13, 5), (14, 6), (15, 7), (16, 8), (17, 9), (18, 10), (19, 11), (20, 12), (21, 13), (22, 14), (25, 17), (26, 18), (27, 19), (28, 20), (5, 21)], [(8, 0), (9, 1), (10, 2), (11, 3), (12, 4), (13, 5), (14, 6), (15, 7), (16, 8), (17, 9), (18, 10), (19, 11), (20, 12), (21, 13), (22, 14), (23, 15), (26, 18), (27, 19), (28, 20), (5, 21)], [(8, 0), (9, 1), (10, 2), (11, 3), (12, 4), (13, 5), (14, 6), (15, 7), (16, 8), (17, 9), (18, 10), (19, 11), (20, 12), (21, 13), (22, 14), (23, 15), (24, 16), (27, 19), (28, 20), (5, 21)], [(8, 0), (9, 1), (10, 2), (11, 3), (12, 4), (13, 5), (14, 6), (15, 7), (16, 8), (17, 9), (18, 10), (19, 11), (20, 12), (21, 13), (22, 14), (23, 15), (24, 16), (25, 17), (28, 20), (5, 21)], [(8, 0), (9, 1), (10, 2), (11, 3), (12, 4), (13, 5), (14, 6), (15, 7), (16, 8), (17, 9), (18, 10), (19, 11), (20, 12), (21, 13), (22, 14), (23, 15), (24, 16), (25, 17), (26, 18), (5, 21)], [(8, 0), (9, 1), (10, 2), (11, 3), (12, 4), (13, 5), (14, 6), (15, 7), (16, 8), (17, 9), (18, 10), (19, 11), (20, 12), (21, 13), (22, 14), (23, 15), (24, 16), (25, 17), (26, 18), (27, 19), (5, 21)], [(8, 0), (9, 1), (10, 2), (11, 3), (12, 4), (13, 5), (14, 6), (15, 7), (16, 8), (17, 9), (18, 10), (19, 11), (20, 12), (21, 13), (22, 14), (23, 15), (24, 16), (25, 17), (26, 18), (27, 19), (28, 20)], [(8, 0), (9, 1), (10, 2), (11, 3), (12, 4), (13, 5), (14, 6), (15, 7), (16, 8), (17, 9), (18, 10), (19, 11), (20, 12), (21, 13), (22, 14), (23, 15), (24, 16), (25, 17), (26, 18), (27, 19), (28, 20), (5, 21)]]
    [Is (.pointer (some ⟨N, 0, none⟩)), Is (.int .i64 k), Is (.pointer (some ⟨N, 1, none⟩)), Is (.int .i64 n), Is (.pointer (some ⟨N, 2, none⟩)), Is (.int .u64 u), Is (.pointer (some ⟨N, 3, none⟩)), Is (.string s), Is (bptr rb), Is (bptr rb), Is (.pointer (some ⟨rb, 1, none⟩)), Is (.int .i64 long), Is (.string (shortS s long)), Is (.pointer (some ⟨N, 4, none⟩)), Is (.slice a4 keys.length c4), Is (bptr rb), Is (bptr rb), Is (.pointer (some ⟨rb, 1, none⟩)), Is (.int .i64 long), fun v w => OwnS w (N + 2) v (textsS keys 64 long), fun v w => ∃ kv', v = .agg #[.int .i64 k, .int .i64 n, .int .u64 u, .string (shortS s long), kv', .slice none 0 0] ∧ OwnS w (N + 2) kv' (textsS keys 64 long), fun v w => ∃ g, v = .pointer (some ⟨g, 0, none⟩) ∧ (N + 2) ≤ g ∧ w.heap[g]? = some (rowN zeroNode)]
    (by kernel_rfl) Grew.trans Grew.refl (Grew.refl _).drew (by kernel_rfl) ⟨is_st, is_st, is_st, is_st, is_st, is_st, is_st, is_st, is_st, is_st, is_st, is_st, is_st, is_st, is_st, is_st, is_st, is_st, is_st, fun _ _ _ hg h => OwnS.grew h hg, fun _ _ _ hg h => h.elim fun q h => ⟨q, h.1, OwnS.grew h.2 hg⟩, fun _ _ _ hg h => h.elim fun q h => ⟨q, h.1, h.2.1, hg.heap h.2.2⟩, trivial⟩ rfl ⟨?_, ?_, ?_, ?_, ?_, ?_, ?_, ?_, ?_, ?_, ?_, ?_, ?_, ?_, ?_, ?_, ?_, ?_, ?_, ?_, ?_, ?_, trivial⟩ ?_ rfl
  · intro y w2' hG hD K hK
    simp only [fillL, Act.put, List.setIfInBounds_toArray, List.set_cons_zero, List.set_cons_succ, List.getD_cons_zero, List.getD_cons_succ, Is] at hK ⊢
    refine ite_yes (by rfl) ?_
    go_simp
    exact hK _ _ _ rfl (Grew.refl _) rfl
  · intro y w2' hG hD K hK
    simp only [depsH, List.getD_cons_zero, List.getD_cons_succ, Is, and_true] at hD
    have h0 := hD
    clear hD
    have dc0 := hG.cell c0
    have dc1 := hG.cell c1
    have dc2 := hG.cell c2
    have dc3 := hG.cell c3
    have dc4' := hG.cell c4'
    have dr1 := hG.cell r1
    simp only [fillL, Act.put, List.setIfInBounds_toArray, List.set_cons_zero, List.set_cons_succ, List.getD_cons_zero, List.getD_cons_succ, Is] at hK ⊢
    rw [h0] at hK ⊢
    clear h0
    refine ite_yes (by rfl) ?_
    go_simp
    exact hK _ _ _ rfl (Grew.refl _) rfl
  · intro y w2' hG hD K hK
    simp only [fillL, Act.put, List.setIfInBounds_toArray, List.set_cons_zero, List.set_cons_succ, List.getD_cons_zero, List.getD_cons_succ, Is] at hK ⊢
    refine ite_yes (by rfl) ?_
    go_simp
    exact hK _ _ _ rfl (Grew.refl _) rfl
  · intro y w2' hG hD K hK
    simp only [depsH, List.getD_cons_zero, List.getD_cons_succ, Is, and_true] at hD
    have h2 := hD
    clear hD
    have dc0 := hG.cell c0
    have dc1 := hG.cell c1
    have dc2 := hG.cell c2
    have dc3 := hG.cell c3
    have dc4' := hG.cell c4'
    have dr1 := hG.cell r1
    simp only [fillL, Act.put, List.setIfInBounds_toArray, List.set_cons_zero, List.set_cons_succ, List.getD_cons_zero, List.getD_cons_succ, Is] at hK ⊢
    rw [h2] at hK ⊢
    clear h2
    refine ite_yes (by rfl) ?_
    go_simp
    exact hK _ _ _ rfl (Grew.refl _) rfl
  · intro y w2' hG hD K hK
    simp only [fillL, Act.put, List.setIfInBounds_toArray, List.set_cons_zero, List.set_cons_succ, List.getD_cons_zero, List.getD_cons_succ, Is] at hK ⊢
    refine ite_yes (by rfl) ?_
    go_simp
    exact hK _ _ _ rfl (Grew.refl _) rfl
  · intro y w2' hG hD K hK
    simp only [depsH, List.getD_cons_zero, List.getD_cons_succ, Is, and_true] at hD
    have h4 := hD
    clear hD
    have dc0 := hG.cell c0
    have dc1 := hG.cell c1
    have dc2 := hG.cell c2
    have dc3 := hG.cell c3
    have dc4' := hG.cell c4'
    have dr1 := hG.cell r1
    simp only [fillL, Act.put, List.setIfInBounds_toArray, List.set_cons_zero, List.set_cons_succ, List.getD_cons_zero, List.getD_cons_succ, Is] at hK ⊢
    rw [h4] at hK ⊢
    clear h4
    refine ite_yes (by rfl) ?_
    go_simp
    exact hK _ _ _ rfl (Grew.refl _) rfl
  · intro y w2' hG hD K hK
    simp only [fillL, Act.put, List.setIfInBounds_toArray, List.set_cons_zero, List.set_cons_succ, List.getD_cons_zero, List.getD_cons_succ, Is] at hK ⊢
    refine ite_yes (by rfl) ?_
    go_simp
    exact hK _ _ _ rfl (Grew.refl _) rfl
  · intro y w2' hG hD K hK
    simp only [depsH, List.getD_cons_zero, List.getD_cons_succ, Is, and_true] at hD
    have h6 := hD
    clear hD
    have dc0 := hG.cell c0
    have dc1 := hG.cell c1
    have dc2 := hG.cell c2
    have dc3 := hG.cell c3
    have dc4' := hG.cell c4'
    have dr1 := hG.cell r1
    simp only [fillL, Act.put, List.setIfInBounds_toArray, List.set_cons_zero, List.set_cons_succ, List.getD_cons_zero, List.getD_cons_succ, Is] at hK ⊢
    rw [h6] at hK ⊢
    clear h6
    refine ite_yes (by rfl) ?_
    go_simp
    exact hK _ _ _ rfl (Grew.refl _) rfl
  · intro y w2' hG hD K hK
    simp only [fillL, Act.put, List.setIfInBounds_toArray, List.set_cons_zero, List.set_cons_succ, List.getD_cons_zero, List.getD_cons_succ, Is] at hK ⊢
    refine ite_yes (by rfl) ?_
    go_simp
    exact hK _ _ _ rfl (Grew.refl _) rfl
  · intro y w2' hG hD K hK
    simp only [depsH, List.getD_cons_zero, List.getD_cons_succ, Is, and_true] at hD
    have h8 := hD
    clear hD
    simp only [fillL, Act.put, List.setIfInBounds_toArray, List.set_cons_zero, List.set_cons_succ, List.getD_cons_zero, List.getD_cons_succ, Is] at hK ⊢
    rw [h8] at hK ⊢
    clear h8
    refine ite_yes (by rfl) ?_
    go_simp
    exact hK _ _ _ rfl (Grew.refl _) rfl
  · intro y w2' hG hD K hK
    simp only [depsH, List.getD_cons_zero, List.getD_cons_succ, Is, and_true] at hD
    have h9 := hD
    clear hD
    simp only [fillL, Act.put, List.setIfInBounds_toArray, List.set_cons_zero, List.set_cons_succ, List.getD_cons_zero, List.getD_cons_succ, Is] at hK ⊢
    rw [h9] at hK ⊢
    clear h9
    refine ite_yes (by rfl) ?_
    go_simp
    exact hK _ _ _ rfl (Grew.refl _) rfl
  · intro y w2' hG hD K hK
    simp only [depsH, List.getD_cons_zero, List.getD_cons_succ, Is, and_true] at hD
    have h10 := hD
    clear hD
    have dc0 := hG.cell c0
    have dc1 := hG.cell c1
    have dc2 := hG.cell c2
    have dc3 := hG.cell c3
    have dc4' := hG.cell c4'
    have dr1 := hG.cell r1
    simp only [fillL, Act.put, List.setIfInBounds_toArray, List.set_cons_zero, List.set_cons_succ, List.getD_cons_zero, List.getD_cons_succ, Is] at hK ⊢
    rw [h10] at hK ⊢
    clear h10
    refine ite_yes (by rfl) ?_
    go_simp
    exact hK _ _ _ rfl (Grew.refl _) rfl
  · intro y w2' hG hD K hK
    simp only [depsH, List.getD_cons_zero, List.getD_cons_succ, Is, and_true] at hD
    have h7 := hD.1
    have h11 := hD.2
    clear hD
    simp only [fillL, Act.put, List.setIfInBounds_toArray, List.set_cons_zero, List.set_cons_succ, List.getD_cons_zero, List.getD_cons_succ, Is] at hK ⊢
    rw [h7, h11] at hK ⊢
    clear h7 h11
    refine ite_yes (by rfl) ?_
    go_simp
    refine (short_any' _ s long hsl.out hlong).mono ?_
    rintro r w3 ⟨rfl, rfl⟩
    exact hK _ _ _ rfl (Grew.refl _) rfl
  · intro y w2' hG hD K hK
    simp only [fillL, Act.put, List.setIfInBounds_toArray, List.set_cons_zero, List.set_cons_succ, List.getD_cons_zero, List.getD_cons_succ, Is] at hK ⊢
    refine ite_yes (by rfl) ?_
    go_simp
    exact hK _ _ _ rfl (Grew.refl _) rfl
  · intro y w2' hG hD K hK
    simp only [depsH, List.getD_cons_zero, List.getD_cons_succ, Is, and_true] at hD
    have h13 := hD
    clear hD
    have dc0 := hG.cell c0
    have dc1 := hG.cell c1
    have dc2 := hG.cell c2
    have dc3 := hG.cell c3
    have dc4' := hG.cell c4'
    have dr1 := hG.cell r1
    simp only [fillL, Act.put, List.setIfInBounds_toArray, List.set_cons_zero, List.set_cons_succ, List.getD_cons_zero, List.getD_cons_succ, Is] at hK ⊢
    rw [h13] at hK ⊢
    clear h13
    refine ite_yes (by rfl) ?_
    go_simp
    exact hK _ _ _ rfl (Grew.refl _) rfl
  · intro y w2' hG hD K hK
    simp only [fillL, Act.put, List.setIfInBounds_toArray, List.set_cons_zero, List.set_cons_succ, List.getD_cons_zero, List.getD_cons_succ, Is] at hK ⊢
    refine ite_yes (by rfl) ?_
    go_simp
    exact hK _ _ _ rfl (Grew.refl _) rfl
  · intro y w2' hG hD K hK
    simp only [depsH, List.getD_cons_zero, List.getD_cons_succ, Is, and_true] at hD
    have h15 := hD
    clear hD
    simp only [fillL, Act.put, List.setIfInBounds_toArray, List.set_cons_zero, List.set_cons_succ, List.getD_cons_zero, List.getD_cons_succ, Is] at hK ⊢
    rw [h15] at hK ⊢
    clear h15
    refine ite_yes (by rfl) ?_
    go_simp
    exact hK _ _ _ rfl (Grew.refl _) rfl
  · intro y w2' hG hD K hK
    simp only [depsH, List.getD_cons_zero, List.getD_cons_succ, Is, and_true] at hD
    have h16 := hD
    clear hD
    simp only [fillL, Act.put, List.setIfInBounds_toArray, List.set_cons_zero, List.set_cons_succ, List.getD_cons_zero, List.getD_cons_succ, Is] at hK ⊢
    rw [h16] at hK ⊢
    clear h16
    refine ite_yes (by rfl) ?_
    go_simp
    exact hK _ _ _ rfl (Grew.refl _) rfl
  · intro y w2' hG hD K hK
    simp only [depsH, List.getD_cons_zero, List.getD_cons_succ, Is, and_true] at hD
    have h17 := hD
    clear hD
    have dc0 := hG.cell c0
    have dc1 := hG.cell c1
    have dc2 := hG.cell c2
    have dc3 := hG.cell c3
    have dc4' := hG.cell c4'
    have dr1 := hG.cell r1
    simp only [fillL, Act.put, List.setIfInBounds_toArray, List.set_cons_zero, List.set_cons_succ, List.getD_cons_zero, List.getD_cons_succ, Is] at hK ⊢
    rw [h17] at hK ⊢
    clear h17
    refine ite_yes (by rfl) ?_
    go_simp
    exact hK _ _ _ rfl (Grew.refl _) rfl
  · intro y w2' hG hD K hK
    simp only [depsH, List.getD_cons_zero, List.getD_cons_succ, Is, and_true] at hD
    have h14 := hD.1
    have h18 := hD.2
    clear hD
    simp only [fillL, Act.put, List.setIfInBounds_toArray, List.set_cons_zero, List.set_cons_succ, List.getD_cons_zero, List.getD_cons_succ, Is] at hK ⊢
    rw [h14, h18] at hK ⊢
    clear h14 h18
    refine ite_yes (by rfl) ?_
    go_simp
    refine (texts_any 64 long _ _ _ (HKS.out.grew (HW0.out.trans (HG.out.trans hG))) (by omega) hlong).mono ?_
    rintro r w3 ⟨v', rfl, hv, hg⟩
    exact hK _ _ _ rfl hg (rows_base hv (Nat.le_trans hB2.out hG.size))
  · intro y w2' hG hD K hK
    simp only [depsH, List.getD_cons_zero, List.getD_cons_succ, Is, and_true] at hD
    have h1 := hD.1
    have h3 := hD.2.1
    have h5 := hD.2.2.1
    have h12 := hD.2.2.2.1
    have h19 := hD.2.2.2.2
    clear hD
    simp only [fillL, Act.put, List.setIfInBounds_toArray, List.set_cons_zero, List.set_cons_succ, List.getD_cons_zero, List.getD_cons_succ, Is] at hK ⊢
    rw [h1, h3, h5, h12] at hK ⊢
    clear h1 h3 h5 h12
    refine ite_yes (by rfl) ?_
    refine Exists.elim (rows_form h19) fun va h => Exists.elim h fun vc h => ?_
    have hs := h.1
    clear h
    rw [hs] at hK h19 ⊢
    go_simp
    exact hK _ _ _ rfl (Grew.refl _) ⟨_, rfl, h19⟩
  · intro y w2' hG hD K hK
    simp only [fillL, Act.put, List.setIfInBounds_toArray, List.set_cons_zero, List.set_cons_succ, List.getD_cons_zero, List.getD_cons_succ, Is] at hK ⊢
    refine ite_yes (by rfl) ?_
    go_simp
    exact hK _ _ _ rfl ((Grew.refl _).alloc _) ⟨_, rfl, Nat.le_trans hB2.out hG.size, heap_alloc_new _ _⟩
  · intro y w2' hG hF K hK
    simp only [factsH, Is, and_true, Nat.reduceAdd] at hF
    have h0 := hF.1
    have h1 := hF.2.1
    have h2 := hF.2.2.1
    have h3 := hF.2.2.2.1
    have h4 := hF.2.2.2.2.1
    have h5 := hF.2.2.2.2.2.1
    have h6 := hF.2.2.2.2.2.2.1
    have h7 := hF.2.2.2.2.2.2.2.1
    have h8 := hF.2.2.2.2.2.2.2.2.1
    have h9 := hF.2.2.2.2.2.2.2.2.2.1
    have h10 := hF.2.2.2.2.2.2.2.2.2.2.1
    have h11 := hF.2.2.2.2.2.2.2.2.2.2.2.1
    have h12 := hF.2.2.2.2.2.2.2.2.2.2.2.2.1
    have h13 := hF.2.2.2.2.2.2.2.2.2.2.2.2.2.1
    have h14 := hF.2.2.2.2.2.2.2.2.2.2.2.2.2.2.1
    have h15 := hF.2.2.2.2.2.2.2.2.2.2.2.2.2.2.2.1
    have h16 := hF.2.2.2.2.2.2.2.2.2.2.2.2.2.2.2.2.1
    have h17 := hF.2.2.2.2.2.2.2.2.2.2.2.2.2.2.2.2.2.1
    have h18 := hF.2.2.2.2.2.2.2.2.2.2.2.2.2.2.2.2.2.2.1
    have h19 := hF.2.2.2.2.2.2.2.2.2.2.2.2.2.2.2.2.2.2.2.1
    have h20 := hF.2.2.2.2.2.2.2.2.2.2.2.2.2.2.2.2.2.2.2.2.1
    have h21 := hF.2.2.2.2.2.2.2.2.2.2.2.2.2.2.2.2.2.2.2.2.2
    clear hF
    simp only [lastOf]
    simp only [fillL, Act.put, List.setIfInBounds_toArray, List.set_cons_zero, List.set_cons_succ, List.getD_cons_zero, List.getD_cons_succ, Is] at hK ⊢
    rw [h0, h1, h2, h3, h4, h5, h6, h7, h8, h9, h10, h11, h12, h13, h14, h15, h16, h17, h18]
    clear h0 h1 h2 h3 h4 h5 h6 h7 h8 h9 h10 h11 h12 h13 h14 h15 h16 h17 h18
    refine ite_yes (by rfl) ?_
    refine Exists.elim h20 fun kv' h => ?_
    have hs20 := h.1
    have hkv := h.2
    refine Exists.elim (rows_form hkv) fun va h => Exists.elim h fun vc h => ?_
    have hs := h.1
    rw [hs] at hkv hs20
    clear h h20 hs h19
    refine Exists.elim h21 fun g h => ?_
    have hs21 := h.1
    have hgB := h.2.1
    have hrow := h.2.2
    clear h h21
    rw [hs20, hs21]
    clear hs20 hs21
    have f0 := row_frozen hrow 0
    have f1 := row_frozen hrow 1
    have f2 := row_frozen hrow 2
    have f3 := row_frozen hrow 3
    have f4 := row_frozen hrow 4
    have f5 := row_frozen hrow 5
    have d0 := row_cellT hrow 0 _ rfl
    have d1 := row_cellT hrow 1 _ rfl
    have d2 := row_cellT hrow 2 _ rfl
    have d3 := row_cellT hrow 3 _ rfl
    have d4 := row_cellT hrow 4 _ rfl
    have d5 := row_cellT hrow 5 _ rfl
    have hrow2 := heap_store6 hrow (.int .i64 k) (.int .i64 n) (.int .u64 u) (.string (shortS s long)) (.slice va (textsS keys 64 long).length vc) (.slice none 0 0)
    have hmv := moved_store6 w2' g (.int .i64 k) (.int .i64 n) (.int .u64 u) (.string (shortS s long)) (.slice va (textsS keys 64 long).length vc) (.slice none 0 0)
    have hkv2 : OwnS _ (N + 2) (.slice va (textsS keys 64 long).length vc) (textsS keys 64 long) := Moved.owns hmv hkv (fun q hq e => not_block hkv hrow (by decide) (by rw [hq, e]))
    have hgr := Moved.fresh hG hmv (fun q e => by have := HS2.out; omega)
    clear hG hrow hmv hkv
    go_simp
    refine hK _ _ ?_
    clear f0 f1 f2 f3 f4 f5 d0 d1 d2 d3 d4 d5 hK
    generalize ((((((w2'.setCell ⟨g, 0, none⟩ (.int .i64 k)).setCell ⟨g, 1, none⟩ (.int .i64 n)).setCell ⟨g, 2, none⟩ (.int .u64 u)).setCell ⟨g, 3, none⟩ (.string (shortS s long))).setCell ⟨g, 4, none⟩ (.slice va (textsS keys 64 long).length vc)).setCell ⟨g, 5, none⟩ (.slice none 0 0)) = w3 at *
    have HROW := Lib.hid hrow2
    have HKV := Lib.hid hkv2
    have HB1' := Lib.hid (hgr.heap HB1.out)
    have HB2' := Lib.hid (hgr.heap HB2.out)
    have HRB' := Lib.hid (hgr.heap HRB.out)
    have HG3 := Lib.hid (HG.out.trans hgr)
    clear hrow2 hkv2 HB1 HB2 HRB HG c0 c1 c2 c3 c4' r1
    have hgN : Hid (N + 2 ≤ g) := hgB
    clear hgB
    generalize y 19 = y19
    have hkz2 : Hid (∀ x ∈ textsS keys 64 long, lenok x.size) := textsS_lenok hkz.out 64 long
    generalize hK2 : textsS keys 64 long = keys2 at *
    have HK2 := Lib.hid hK2
    clear hK2
    have hsl2 : Hid (lenok (shortS s long).size) := shortS_lenok hsl.out long
    generalize hSS : shortS s long = s2 at *
    have HSS := Lib.hid hSS
    clear hSS
    go_wp2_with fail
    go_loopw [6, 7] (fun v i wr => ∃ (kk lf : Nat), kk ≤ l.length ∧ lf ≤ 4096 ∧ i = .int .i64 kk ∧ Hid (Grow (fun g => g = rb) w3 wr v (cutTrs long left (l.take kk)).1 ∧ (cutTrs long left (l.take kk)).2 = lf ∧ wr.heap[rb]? = some (roomR lf long))) (fun _ i _ => l.length - (intOf i).toNat)
    case atStart => exact ⟨0, left, Nat.zero_le _, hleft, rfl, by
      show _ ∧ _ ∧ _
      exact ⟨by simpa [cutTrs] using Grow.start _ _, by simp [cutTrs], HRB'.out⟩⟩
    case round =>
      obtain ⟨kk, lf, hkk, hlf, rfl, HW⟩ := hrel
      have hm3 : Moved (fun g => g = rb) w3 wr := by obtain ⟨_, _, _, _, _, hm⟩ := HW.out.1; exact hm
      have HM := Lib.hid hm3
      have b5 := row_cellT (hm3.heap HB1'.out (by have := hrbN.out; omega)) 5 _ rfl
      have q0 := row_cellT HW.out.2.2 0 _ rfl
      clear hm3
      by_cases hgo : kk < l.length ∧ 0 < lf
      · obtain ⟨hlt, hpos⟩ := hgo
        obtain ⟨p, rfl⟩ : ∃ p, lf = p + 1 := ⟨lf - 1, by omega⟩
        obtain ⟨x, hx⟩ : ∃ x, l[kk]? = some x := ⟨_, List.getElem?_eq_getElem hlt⟩
        obtain ⟨xv, hxv, hnx⟩ := HK.out.get hx
        have hxm : x ∈ l := List.mem_of_getElem? hx
        have HX := Lib.hid (cutTrs_next long left l kk p x hx HW.out.2.1)
        have hxs := HSZ.out x hxm
        have hWr : Hid (Grew W wr) := Moved.fresh (HW0.out.trans HG3.out) HM.out (fun g h => by omega)
        have HNX := Lib.hid hnx
        obtain ⟨b, off, rfl, hc6⟩ : ∃ b off, a5 = some ⟨b, off, none⟩ ∧ Cells6 wr b (off + kk * 6) xv := by
          obtain ⟨a, c, e, _, _, _, h⟩ := HROWS.out
          injection e with e1 e2 e3
          subst e1
          obtain ⟨b, off, e, h6⟩ := h kk xv hxv
          exact ⟨b, off, e, h6.grew hWr.out⟩
        obtain ⟨xk, xn, xu, xs, xa4, xn4, xc4, xa5, xn5, xc5, rfl⟩ := hnx.node6
        have hmS : Moved (fun g => g = rb) wr (wr.setCell ⟨rb, 0, none⟩ (.int .i64 p)) := Moved.setCell (S := fun g => g = rb) (p := ⟨rb, 0, none⟩) (Moved.refl _ wr) (fun _ => rfl) _
        obtain ⟨e0, e1, e2, e3, e4, e5⟩ := hc6.get
        have qf := row_frozen HW.out.2.2 0
        have hlti : (kk : Int) < l.length := by omega
        have HROOM := Lib.hid (roomR_set HW.out.2.2 p)
        have hne : ¬ b = rb := by
          have h0 := (hc6.grew (Grew.refl _)).get.1
          obtain ⟨a, c, e, _, _, _, h⟩ := HROWS.out
          injection e with e1 e2 e3
          obtain ⟨b', off', e, h6⟩ := h kk _ hxv
          rw [← e1] at e
          injection e with e
          injection e with e
          have := World.block_lt_of_cell? W _ h6.get.1
          simp only at this
          omega
        have hne2 : ¬ rb = b := fun e => hne e.symm
        have hrN : ¬ rb = N := by have := hrbN.out; omega
        have hrN2 : ¬ N = rb := by have := hrbN.out; omega
        clear hc6 hx hxv hnx hxm hpos
        have HMS := Lib.hid hmS
        have hrb3 : Hid (rb < w3.heap.size) := (Array.getElem?_eq_some_iff.1 HRB'.out).1
        have HWS : Hid (Grew W (wr.setCell ⟨rb, 0, none⟩ (.int .i64 p))) := Moved.fresh hWr.out hmS (fun g h => by omega)
        have HWK : Hid (Grow (fun g => g = rb) w3 (wr.setCell ⟨rb, 0, none⟩ (.int .i64 p)) u6 (cutTrs long left (l.take kk)).1) := HW.out.1.kept hmS (fun g h => by have := hrb3.out; omega) (fun _ h => h)
        clear hmS
        go_wp2_with fail
        refine (ih x hxs _ _ p (by omega) HNX.out HWS.out HROOM.out).mono ?_
        rintro r w4 ⟨xv, rfl, hox, hm4, hr4⟩
        obtain ⟨yk, yn, yu, ys, ya4, yn4, yc4, ya5, yn5, yc5, rfl⟩ := hox.node6
        have HOX := Lib.hid hox
        have HM4 := Lib.hid hm4
        have HR4 := Lib.hid hr4
        obtain ⟨vs4, S4, q1, q2, q3, q4⟩ := HWK.out
        obtain ⟨ga, gc, rfl, hz1, hz2, hz3⟩ := HWK.out.form
        have HLN : Hid ((cutTrs long left (l.take kk)).1.length ≤ 4096) := by
          show _ ≤ _
          have h1 := length_sizeL (cutTrs long left (l.take kk)).1
          have h2 := cutTrs_size long (l.take kk) left
          omega
        have HV4 : Hid (vs4.length ≤ 4096) := by show _ ≤ _; rw [q2.length]; exact HLN.out
        have HLF : Hid ((cutTr long p x).2 ≤ 4096) := by
          show _ ≤ _
          have h1 := cutTr_size long x p
          have h2 := (cutTr long p x).1.size_pos
          omega
        have HQ1 := Lib.hid q1
        have HQ2 := Lib.hid q2
        have HQ3 := Lib.hid q3
        have HQ4 := Lib.hid q4
        have HSW : Hid (w3.heap.size ≤ w4.heap.size) := Nat.le_trans q4.size hm4.size
        have HON : Hid (∀ o, OwnN (w4.alloc o) w3.heap.size (.slice ga (cutTrs long left (l.take kk)).1.length gc) vs4) := fun o => OwnN.grew ⟨Moved.owns hm4 q1.1 (fun g hg e => by have := (World.ownsRow.lt q1.1 g hg).1; have := hrb3.out; omega), q1.2⟩ ((Grew.refl _).alloc o)
        have HSZ4 : Hid (∀ o, w3.heap.size ≤ (w4.alloc o).heap.size) := fun o => Nat.le_trans HSW.out ((Grew.refl w4).alloc o).size
        clear q0 q1 q2 q3 q4 hz1 hz2 hz3 hox hm4 hr4 HW HWK e0 e1 e2 e3 e4 e5 b5 qf
        generalize (cutTrs long left (l.take kk)).1 = L at *
        go_wp2_with (at_builtin; refine wpList_appendN rfl _ _ rfl w3.heap.size _ vs4 rfl (HON.out _) _ _ (.agg #[.int .i64 yk, .int .i64 yn, .int .u64 yu, .string ys, .slice ya4 yn4 yc4, .slice ya5 yn5 yc5]) rfl (heap_alloc_new _ _) ⟨_, _, _, _, _, _, _, _, _, _, rfl⟩ (by have := HV4.out; omega) (HSZ4.out _) ?_; intro v' w5 hown hgr hnx; obtain ⟨va2, vc2, rfl, hz1, hz2, hz3⟩ := rows_form hown.1; have HG5 := Lib.hid (And.intro (Grow.step (R := fun g => g = rb) (fun g h => by have := hrb3.out; omega) vs4 S4 HQ2.out HQ1.out HQ3.out HQ4.out HOX.out HM4.out _ hown hgr hnx) ((Moved.of_grown hgr).heap (((Grew.refl w4).alloc _).heap HR4.out) (fun e => by have := (World.ownsRow.lt HQ1.out.1 rb e.symm).1; have := hrb3.out; omega))); clear hown hgr hnx hz1 hz2 hz3)
        go_roundw
        case rel =>
          refine ⟨kk + 1, (cutTr long p x).2, by omega, HLF.out, by go_num, ?_⟩
          show _ ∧ _ ∧ _
          rw [HX.out]
          have hh := HG5.out
          rw [List.length_append] at hh
          exact ⟨hh.1, rfl, hh.2⟩
        case measure => simp [intOf]; omega
      · have hend := cutTrs_end long left l kk (by have := HW.out.2.1; omega)
        have HE := HW.out
        rw [hend] at HE
        have HEH := Lib.hid HE
        have hrow := HM.out.heap HROW.out (by have := hgN.out; have := hrbN.out; omega)
        have hres := HM.out.heap HB2'.out (by have := hrbN.out; omega)
        have HROWW := Lib.hid hrow
        have HRESW := Lib.hid hres
        have f5 := row_frozen hrow 5
        have r0 := row_frozen hres 0
        have r1 := row_frozen hres 1
        have r2 := row_frozen hres 2
        have r3 := row_frozen hres 3
        have r4 := row_frozen hres 4
        have r5 := row_frozen hres 5
        have d0 := row_cellT hrow 0 _ rfl
        have d1 := row_cellT hrow 1 _ rfl
        have d2 := row_cellT hrow 2 _ rfl
        have d3 := row_cellT hrow 3 _ rfl
        have d4 := row_cellT hrow 4 _ rfl
        have d5 := row_cellT hrow 5 _ rfl
        have z0 := row_cellT hres 0 _ rfl
        have z1 := row_cellT hres 1 _ rfl
        have z2 := row_cellT hres 2 _ rfl
        have z3 := row_cellT hres 3 _ rfl
        have z4 := row_cellT hres 4 _ rfl
        have z5 := row_cellT hres 5 _ rfl
        have hne : ¬ g = N + 1 := by have := hgN.out; omega
        have hne2 : ¬ N + 1 = g := by have := hgN.out; omega
        obtain ⟨ga, gc, rfl, hz1, hz2, hz3⟩ := HE.1.form
        obtain ⟨L, hL⟩ : ∃ L, (cutTrs long left l).1 = L := ⟨_, rfl⟩
        have hT := moved_close wr g (N + 1) (.int .i64 k) (.int .i64 n) (.int .u64 u) (.string s2) (.slice va keys2.length vc) (.slice ga (cutTrs long left l).1.length gc) (.slice ga (cutTrs long left l).1.length gc)
        have hWW : Moved (fun q => q = rb) w wr := (Moved.of_grew HG3.out).trans' HM.out
        have hMW : Moved (fun q => q = rb) w (store6 (wr.setCell ⟨g, 5, none⟩ (.slice ga (cutTrs long left l).1.length gc)) (N + 1) (.int .i64 k) (.int .i64 n) (.int .u64 u) (.string s2) (.slice va keys2.length vc) (.slice ga (cutTrs long left l).1.length gc)) := hWW.trans hT (fun j hj e => by have h1 := HN.out; have h2 := hgN.out; rcases e with rfl | rfl <;> omega)
        have hkvW : OwnS wr (N + 2) (.slice va keys2.length vc) keys2 := Moved.owns HM.out HKV.out (fun q hq e => by have := (World.ownsRow.lt HKV.out q hq).1; have := hrbN.out; omega)
        have hrbW := hT.heap HE.2.2 (fun e => by have := hgN.out; have := hrbN.out; omega)
        have hfin : OwnT (store6 (wr.setCell ⟨g, 5, none⟩ (.slice ga (cutTrs long left l).1.length gc)) (N + 1) (.int .i64 k) (.int .i64 n) (.int .u64 u) (.string s2) (.slice va keys2.length vc) (.slice ga (cutTrs long left l).1.length gc)) w.heap.size (.mk k n u s2 keys2 (cutTrs long left l).1) (.agg #[.int .i64 k, .int .i64 n, .int .u64 u, .string s2, .slice va keys2.length vc, .slice ga (cutTrs long left l).1.length gc]) (Fresh w (store6 (wr.setCell ⟨g, 5, none⟩ (.slice ga (cutTrs long left l).1.length gc)) (N + 1) (.int .i64 k) (.int .i64 n) (.int .u64 u) (.string s2) (.slice va keys2.length vc) (.slice ga (cutTrs long left l).1.length gc))) := by
          have h1 := HN.out
          have h2 := hgN.out
          have h3 : g < w3.heap.size := (Array.getElem?_eq_some_iff.1 HROW.out).1
          have h4 : N + 1 < w3.heap.size := (Array.getElem?_eq_some_iff.1 HB2'.out).1
          refine Grow.tree (((HE.1.wider (T := fun q => q = rb ∨ (q = g ∨ q = N + 1)) (fun _ h => .inl h)).kept hT (fun q hq => ?_) (fun _ h => .inr h))) ⟨HB.out.1, HB.out.2.1, HB.out.2.2.1, hsl2.out, hkz2.out⟩ HG3.out.size ?_ (fun q hq => (World.ownsRow.lt HKV.out q hq).2)
          · rcases hq with rfl | rfl <;> omega
          · refine rows_base (Moved.owns hT hkvW (fun q hq e => ?_)) (by omega)
            rcases e with rfl | rfl
            · exact not_block hkvW HROWW.out (by decide) hq
            · exact not_block hkvW HRESW.out (by decide) hq
        have HFIN : Hid (OwnT (store6 (wr.setCell ⟨g, 5, none⟩ (.slice ga (cutTrs long left l).1.length gc)) (N + 1) (.int .i64 k) (.int .i64 n) (.int .u64 u) (.string s2) (.slice va keys2.length vc) (.slice ga (cutTrs long left l).1.length gc)) w.heap.size (cutTr long left (.mk k n u s keys l)).1 (.agg #[.int .i64 k, .int .i64 n, .int .u64 u, .string s2, .slice va keys2.length vc, .slice ga (cutTrs long left l).1.length gc]) (Fresh w (store6 (wr.setCell ⟨g, 5, none⟩ (.slice ga (cutTrs long left l).1.length gc)) (N + 1) (.int .i64 k) (.int .i64 n) (.int .u64 u) (.string s2) (.slice va keys2.length vc) (.slice ga (cutTrs long left l).1.length gc))) ∧
            Moved (fun q => q = rb) w (store6 (wr.setCell ⟨g, 5, none⟩ (.slice ga (cutTrs long left l).1.length gc)) (N + 1) (.int .i64 k) (.int .i64 n) (.int .u64 u) (.string s2) (.slice va keys2.length vc) (.slice ga (cutTrs long left l).1.length gc)) ∧ (store6 (wr.setCell ⟨g, 5, none⟩ (.slice ga (cutTrs long left l).1.length gc)) (N + 1) (.int .i64 k) (.int .i64 n) (.int .u64 u) (.string s2) (.slice va keys2.length vc) (.slice ga (cutTrs long left l).1.length gc)).heap[rb]? = some (roomR (cutTr long left (.mk k n u s keys l)).2 long)) := by
          show _ ∧ _ ∧ _
          refine ⟨?_, hMW, ?_⟩
          · simp only [cutTr]
            rw [HK2.out, HSS.out]
            exact hfin
          · simp only [cutTr]
            rw [HE.2.1]
            exact hrbW
        clear hT hMW hWW hfin hkvW hrbW hend HE hrow hres hz1 hz2 hz3
        rw [hL] at *
        by_cases hlt : kk < l.length
        · obtain rfl : lf = 0 := by omega
          clear hgo
          go_wp2
          refine bodyPost_ret (v := .agg #[.int .i64 k, .int .i64 n, .int .u64 u, .string s2, .slice va keys2.length vc, .slice ga L.length gc]) (by simp [results, Try.results42, go_sem, z0, z1, z2, z3, z4, z5, hne, hne2]) rfl ?_
          exact ⟨_, rfl, HFIN.out⟩
        · clear hgo
          have hge : ¬ (kk : Int) < l.length := by omega
          go_wp2
          refine bodyPost_ret (v := .agg #[.int .i64 k, .int .i64 n, .int .u64 u, .string s2, .slice va keys2.length vc, .slice ga L.length gc]) (by simp [results, Try.results42, go_sem, z0, z1, z2, z3, z4, z5, hne, hne2]) rfl ?_
          exact ⟨_, rfl, HFIN.out⟩
end Go.Proofs.Ytlhliolknaopjaa

/-
  Trees: Cut; comparing lists of strings.
-/
namespace Go.Proofs.Ytlhliolknaopjaa
open Go Go.ChangeShapes Go.WideShapes Go.ChangeAt Go.RowKit Go.Joins Go.Deep
set_option linter.unusedVariables false
set_option linter.unusedSimpArgs false

theorem str_eq (x y : ByteArray) : (x.toList == y.toList) = decide (x = y) := by
  rw [Bool.eq_iff_iff, beq_iff_eq, decide_eq_true_eq, ByteArray.toList_eq, ByteArray.toList_eq]
  exact ⟨fun h => bytes_inj h, fun h => by rw [h]⟩
set_option maxRecDepth 100000 in
set_option maxHeartbeats 1000000 in
theorem cut_node_any (nodes long : Nat) (hn1 : 1 ≤ nodes) (hn : nodes ≤ 4096) (hlong : long ≤ 1000) (t : Tr) (v : Value) (w : World) (h : NodeAt w t v) :
    Calls Try.prog 21 #[v, .int .i64 nodes, .int .i64 long] w fun r w' => ∃ v', r = .returned v' ∧ OwnT w' w.heap.size (cutTr long (nodes - 1) t).1 v' (Fresh w w') ∧ Grew w w' := by
  have HNA := Lib.hid h
  obtain ⟨k, n, u, s, a4, n4, c4, a5, n5, c5, rfl⟩ := h.node6
  clear h
  obtain ⟨p, rfl⟩ : ∃ p, nodes = p + 1 := ⟨nodes - 1, by omega⟩
  go_enter Try.func21, Try.ntmps21
  go_wp2_with fail
  have hb2 := heap_alloc_new (w.alloc (.cells #[.int .i64 k, .int .i64 n, .int .u64 u, .string s, .slice a4 n4 c4, .slice a5 n5 c5] 27)) (.cells #[.int .i64 0, .int .i64 0, .int .u64 0, .string ⟨#[]⟩, .slice none 0 0, .slice none 0 0] 27)
  have hg2 := ((Grew.refl w).alloc (.cells #[.int .i64 k, .int .i64 n, .int .u64 u, .string s, .slice a4 n4 c4, .slice a5 n5 c5] 27)).alloc (.cells #[.int .i64 0, .int .i64 0, .int .u64 0, .string ⟨#[]⟩, .slice none 0 0, .slice none 0 0] 27)
  have hs2 : ((w.alloc (.cells #[.int .i64 k, .int .i64 n, .int .u64 u, .string s, .slice a4 n4 c4, .slice a5 n5 c5] 27)).alloc (.cells #[.int .i64 0, .int .i64 0, .int .u64 0, .string ⟨#[]⟩, .slice none 0 0, .slice none 0 0] 27)).heap.size = w.heap.size + 1 + 1 := by rw [World.size_alloc, World.size_alloc]
  rw [World.size_alloc] at hb2
  generalize ((w.alloc (.cells #[.int .i64 k, .int .i64 n, .int .u64 u, .string s, .slice a4 n4 c4, .slice a5 n5 c5] 27)).alloc (.cells #[.int .i64 0, .int .i64 0, .int .u64 0, .string ⟨#[]⟩, .slice none 0 0, .slice none 0 0] 27)) = w2 at *
  have hb3 := heap_alloc_new w2 (.cells #[.int .i64 p, .int .i64 long] 65)
  have hg3 := (Grew.refl w2).alloc (.cells #[.int .i64 p, .int .i64 long] 65)
  have hs3 : (w2.alloc (.cells #[.int .i64 p, .int .i64 long] 65)).heap.size = w2.heap.size + 1 := World.size_alloc _ _
  rw [hs2] at hb3 hs3
  generalize (w2.alloc (.cells #[.int .i64 p, .int .i64 long] 65)) = w3 at *
  have HB2 := Lib.hid (hg3.heap hb2)
  have HG3 := Lib.hid (hg2.trans hg3)
  obtain ⟨N, hN⟩ : ∃ N, w.heap.size = N := ⟨_, rfl⟩
  rw [hN] at hb3 HB2 hs3 ⊢
  have HN := Lib.hid hN
  have HS3 := Lib.hid hs3
  have hroom : w3.heap[N + 1 + 1]? = some (roomR p long) := hb3
  clear hb2 hb3 hg2 hg3 hs2 hs3 hN
  refine (roomcut_any long hlong w (N + 1 + 1) (by have := HN.out; omega) t.size t (Nat.le_refl _) _ _ p (by omega) HNA.out HG3.out hroom).mono ?_
  rintro r w4 ⟨v', rfl, ho, hm, _⟩
  obtain ⟨yk, yn, yu, ys, ya4, yn4, yc4, ya5, yn5, yc5, rfl⟩ := ho.node6
  have hres := hm.heap HB2.out (by omega)
  have r0 := row_frozen hres 0
  have r1 := row_frozen hres 1
  have r2 := row_frozen hres 2
  have r3 := row_frozen hres 3
  have r4 := row_frozen hres 4
  have r5 := row_frozen hres 5
  have z0 := row_cellT hres 0 _ rfl
  have z1 := row_cellT hres 1 _ rfl
  have z2 := row_cellT hres 2 _ rfl
  have z3 := row_cellT hres 3 _ rfl
  have z4 := row_cellT hres 4 _ rfl
  have z5 := row_cellT hres 5 _ rfl
  have hst := moved_store6 w4 (N + 1) (.int .i64 yk) (.int .i64 yn) (.int .u64 yu) (.string ys) (.slice ya4 yn4 yc4) (.slice ya5 yn5 yc5)
  have hGW : Grew w w4 := Moved.fresh HG3.out hm (fun g h => by have := HN.out; omega)
  have hGF : Grew w (store6 w4 (N + 1) (.int .i64 yk) (.int .i64 yn) (.int .u64 yu) (.string ys) (.slice ya4 yn4 yc4) (.slice ya5 yn5 yc5)) := Moved.fresh hGW hst (fun g h => by have := HN.out; omega)
  have hfin := ((ho.kept hst (fun g hg e => by have h1 := HS3.out; have h2 := hg.1; omega)).base (B' := w.heap.size) HG3.out.size).mono (T := Fresh w (store6 w4 (N + 1) (.int .i64 yk) (.int .i64 yn) (.int .u64 yu) (.string ys) (.slice ya4 yn4 yc4) (.slice ya5 yn5 yc5))) (fun g hg => ⟨Nat.le_trans HG3.out.size hg.1, Nat.lt_of_lt_of_le hg.2 hst.size⟩)
  have HFIN := Lib.hid (And.intro hfin hGF)
  clear hst hGW hGF hfin ho hm hres hroom
  go_wp2
  refine bodyPost_ret (v := .agg #[.int .i64 yk, .int .i64 yn, .int .u64 yu, .string ys, .slice ya4 yn4 yc4, .slice ya5 yn5 yc5]) (by simp [results, Try.results21, go_sem, z0, z1, z2, z3, z4, z5]) rfl ?_
  exact ⟨_, rfl, by simpa using HFIN.out.1, HFIN.out.2⟩
set_option maxRecDepth 100000 in
set_option maxHeartbeats 1000000 in
theorem eqtexts_any (a b : List ByteArray) (v u : Value) (w : World) (ha : StrsAt w v a) (hb : StrsAt w u b) :
    Calls Try.prog 27 #[v, u] w fun r w' => r = .returned (.bool (decide (a = b))) ∧ Grew w w' := by
  have HA := Lib.hid ha
  have HB := Lib.hid hb
  obtain ⟨aa, ac, rfl, hla, hac, hz1, hz2⟩ := ha
  obtain ⟨ba, bc, rfl, hlb, hbc, hz3, hz4⟩ := hb
  unfold lenok at hac hbc
  have hal : a.length ≤ 9223372036854775807 := by omega
  have hbl : b.length ≤ 9223372036854775807 := by omega
  clear hz1 hz2 hz3 hz4 hac hbc hla hlb
  by_cases hl : a.length = b.length
  · go_enter Try.func27, Try.ntmps27
    go_wp2_with fail
    have hli : (a.length : Int) = b.length := by omega
    have HL := Lib.hid hl
    clear hli hl
    go_loopw [5] (fun i wr => ∃ k : Nat, k ≤ a.length ∧ i = .int .i64 k ∧ Hid (a.take k = b.take k ∧ Grew w wr)) (fun i _ => a.length - (intOf i).toNat)
    case atStart => exact ⟨0, Nat.zero_le _, rfl, by show _ ∧ _; exact ⟨by simp, Grew.refl _⟩⟩
    case round =>
      obtain ⟨k, hk, rfl, HW⟩ := hrel
      by_cases hlt : k < a.length
      · obtain ⟨x, hx⟩ : ∃ x, a[k]? = some x := ⟨_, List.getElem?_eq_getElem hlt⟩
        have hltb : k < b.length := by have := HL.out; omega
        obtain ⟨y, hy⟩ : ∃ y, b[k]? = some y := ⟨_, List.getElem?_eq_getElem hltb⟩
        obtain ⟨ax, ab, aoff, rfl, hca⟩ : lenok x.size ∧ ∃ b off, aa = some ⟨b, off, none⟩ ∧ w.cell? ⟨b, off + k, none⟩ = some (.string x) := by
          obtain ⟨a', c', e, _, _, _, h⟩ := HA.out
          injection e with e1 e2 e3
          subst e1
          exact h k x hx
        obtain ⟨bx, bb, boff, rfl, hcb⟩ : lenok y.size ∧ ∃ b off, ba = some ⟨b, off, none⟩ ∧ w.cell? ⟨b, off + k, none⟩ = some (.string y) := by
          obtain ⟨a', c', e, _, _, _, h⟩ := HB.out
          injection e with e1 e2 e3
          subst e1
          exact h k y hy
        have c0 := HW.out.2.cell hca
        have c1 := HW.out.2.cell hcb
        have HXY := Lib.hid (And.intro hx hy)
        clear hx hy hca hcb ax bx
        have hlti : (k : Int) < a.length := by omega
        have hltj : (k : Int) < b.length := by omega
        by_cases hxy : x = y
        · subst hxy
          go_wp2_with fail
          go_quiet (fail)
          go_wp2
          go_roundw
          case rel => exact ⟨k + 1, by omega, by go_num, by
            show _ ∧ _
            obtain ⟨h1, h2⟩ := HXY.out
            exact ⟨by rw [List.take_add_one, List.take_add_one, HW.out.1, h1, h2], HW.out.2.drewN _⟩⟩
          case measure => simp [intOf]; omega
        · have hne : Hid (¬ a = b) := fun e => hxy (by
            obtain ⟨h1, h2⟩ := HXY.out
            rw [e, h2] at h1
            injection h1 with h1
            exact h1.symm)
          have hbne : (x.toList == y.toList) = false := by rw [str_eq]; exact decide_eq_false hxy
          clear hxy
          go_wp2_with fail
          go_quiet (fail)
          go_wp2
          go_ret
          exact ⟨by rw [decide_eq_false hne.out]; rfl, HW.out.2.drewN _⟩
      · have ek : k = a.length := by omega
        subst ek
        have heq : Hid (a = b) := by
          show _ = _
          have h := HW.out.1
          rw [List.take_length, HL.out, List.take_length] at h
          exact h
        go_wp2
        go_ret
        exact ⟨by rw [decide_eq_true heq.out]; rfl, HW.out.2⟩
  · have hne : Hid (¬ a = b) := fun e => hl (by rw [e])
    have hb1 : ((a.length : Int) != b.length) = true := by simp; omega
    go_enter Try.func27, Try.ntmps27
    go_wp2
    go_ret
    exact ⟨by rw [decide_eq_false hne.out]; rfl, Grew.refl _⟩
end Go.Proofs.Ytlhliolknaopjaa

/-
  Trees: the reference's comparison. Conditions: both nodes lie in memory.
-/
namespace Go.Proofs.Ytlhliolknaopjaa
open Go Go.ChangeShapes Go.WideShapes Go.ChangeAt Go.RowKit Go.Joins Go.Deep
set_option linter.unusedVariables false
set_option linter.unusedSimpArgs false

set_option maxRecDepth 100000 in
set_option maxHeartbeats 4000000 in
theorem eqnode_any : ∀ (m : Nat) (t : Tr), t.size ≤ m → ∀ (t2 : Tr) (v v2 : Value) (w : World), NodeAt w t v → NodeAt w t2 v2 →
    Calls Try.prog 13 #[v, v2] w fun r w' => ∃ b, r = .returned (.bool b) ∧ (b = true ↔ t = t2) ∧ Grew w w' := by
  intro m
  induction m with
  | zero => intro t ht; have := t.size_pos; omega
  | succ m ih =>
  intro t ht t2 v v2 w hn hn2
  obtain ⟨k, n, u, s, keys, l⟩ := t
  obtain ⟨k2, n2, u2, s2, keys2, l2⟩ := t2
  simp only [NodeAt] at hn hn2
  obtain ⟨hb, kv, lv, vs, rfl, hks, hrows, hkids⟩ := hn
  obtain ⟨hb2, kv2, lv2, vs2, rfl, hks2, hrows2, hkids2⟩ := hn2
  have hkl := hkids.length
  have hkl2 := hkids2.length
  have HKS := Lib.hid hks
  have HKS2 := Lib.hid hks2
  have HK := Lib.hid hkids
  have HK2 := Lib.hid hkids2
  obtain ⟨a4, c4, rfl, hx1, hx2, hx3, hx4⟩ := hks
  obtain ⟨b4, d4, rfl, hy1, hy2, hy3, hy4⟩ := hks2
  clear hx1 hx2 hx3 hx4 hy1 hy2 hy3 hy4
  have HROWS := Lib.hid hrows
  have HROWS2 := Lib.hid hrows2
  obtain ⟨a5, c5, rfl, hll, hc5, hx3, hx4⟩ := hrows
  obtain ⟨b5, d5, rfl, hll2, hd5, hy3, hy4⟩ := hrows2
  rw [hkl] at HROWS hll ⊢
  rw [hkl2] at HROWS2 hll2 ⊢
  have hlen : l.length ≤ 9223372036854775807 := by unfold lenok at hc5; omega
  have hlen2 : l2.length ≤ 9223372036854775807 := by unfold lenok at hd5; omega
  clear hx3 hx4 hll hy3 hy4 hll2 hc5 hd5 hb hb2 hkl hkl2 hkids hkids2
  have hsz : ∀ x ∈ l, x.size ≤ m := fun x hx => by have := size_mem hx; simp only [Tr.size] at ht; omega
  have HSZ := Lib.hid hsz
  clear hsz ht
  by_cases h0 : k = k2
  rotate_left
  · have hne : Hid (¬ (Tr.mk k n u s keys l = Tr.mk k2 n2 u2 s2 keys2 l2)) := fun e => h0 (by injection e)
    have hB : (k != k2) = true := by simp [h0]
    clear h0
    go_enter Try.func13, Try.ntmps13
    go_wp2_with fail
    go_ret
    exact ⟨false, rfl, ⟨fun h => absurd h (by decide), fun h => absurd h hne.out⟩, ((Grew.refl w).alloc _).alloc _⟩
  by_cases h1 : n = n2
  rotate_left
  · have hne : Hid (¬ (Tr.mk k n u s keys l = Tr.mk k2 n2 u2 s2 keys2 l2)) := fun e => h1 (by injection e)
    have hB : (n != n2) = true := by simp [h1]
    clear h1
    go_enter Try.func13, Try.ntmps13
    go_wp2_with fail
    go_ret
    exact ⟨false, rfl, ⟨fun h => absurd h (by decide), fun h => absurd h hne.out⟩, ((Grew.refl w).alloc _).alloc _⟩
  by_cases h2 : u = u2
  rotate_left
  · have hne : Hid (¬ (Tr.mk k n u s keys l = Tr.mk k2 n2 u2 s2 keys2 l2)) := fun e => h2 (by injection e)
    have hB : (u != u2) = true := by simp [h2]
    clear h2
    go_enter Try.func13, Try.ntmps13
    go_wp2_with fail
    go_ret
    exact ⟨false, rfl, ⟨fun h => absurd h (by decide), fun h => absurd h hne.out⟩, ((Grew.refl w).alloc _).alloc _⟩
  by_cases h3 : s = s2
  rotate_left
  · have hne : Hid (¬ (Tr.mk k n u s keys l = Tr.mk k2 n2 u2 s2 keys2 l2)) := fun e => h3 (by injection e)
    have hB : (s.toList == s2.toList) = false := by rw [str_eq]; exact decide_eq_false h3
    clear h3
    go_enter Try.func13, Try.ntmps13
    go_wp2_with fail
    go_ret
    exact ⟨false, rfl, ⟨fun h => absurd h (by decide), fun h => absurd h hne.out⟩, ((Grew.refl w).alloc _).alloc _⟩
  subst h0 h1 h2 h3
  by_cases h4 : keys = keys2
  rotate_left
  · have hne : Hid (¬ (Tr.mk k n u s keys l = Tr.mk k n u s keys2 l2)) := fun e => h4 (by injection e)
    have hB : decide (keys = keys2) = false := decide_eq_false h4
    clear h4
    go_enter Try.func13, Try.ntmps13
    go_wp2_with fail
    refine (eqtexts_any keys keys2 _ _ _ (HKS.out.grew (((Grew.refl w).alloc _).alloc _)) (HKS2.out.grew (((Grew.refl w).alloc _).alloc _))).mono ?_
    rw [hB]
    rintro r w3 ⟨rfl, hg3⟩
    have HG3 := Lib.hid hg3
    clear hg3 hB
    go_wp2_with fail
    go_ret
    exact ⟨false, rfl, ⟨fun h => absurd h (by decide), fun h => absurd h hne.out⟩, (((Grew.refl w).alloc _).alloc _).trans HG3.out⟩
  subst h4
  go_enter Try.func13, Try.ntmps13
  go_wp2_with fail
  refine (eqtexts_any keys keys _ _ _ (HKS.out.grew (((Grew.refl w).alloc _).alloc _)) (HKS2.out.grew (((Grew.refl w).alloc _).alloc _))).mono ?_
  rw [decide_eq_true (rfl : keys = keys)]
  rintro r w3 ⟨rfl, hg3⟩
  have hb1 := heap_alloc_new w (.cells #[.int .i64 k, .int .i64 n, .int .u64 u, .string s, .slice a4 keys.length c4, .slice a5 l.length c5] 27)
  have hb2 := heap_alloc_new (w.alloc (.cells #[.int .i64 k, .int .i64 n, .int .u64 u, .string s, .slice a4 keys.length c4, .slice a5 l.length c5] 27)) (.cells #[.int .i64 k, .int .i64 n, .int .u64 u, .string s, .slice b4 keys.length d4, .slice b5 l2.length d5] 27)
  replace hb1 := hg3.heap (((Grew.refl (w.alloc (.cells #[.int .i64 k, .int .i64 n, .int .u64 u, .string s, .slice a4 keys.length c4, .slice a5 l.length c5] 27))).alloc (.cells #[.int .i64 k, .int .i64 n, .int .u64 u, .string s, .slice b4 keys.length d4, .slice b5 l2.length d5] 27)).heap hb1)
  replace hb2 := hg3.heap hb2
  rw [World.size_alloc] at hb2
  have HB1 := Lib.hid hb1
  have HB2 := Lib.hid hb2
  have HG := Lib.hid ((((Grew.refl w).alloc (.cells #[.int .i64 k, .int .i64 n, .int .u64 u, .string s, .slice a4 keys.length c4, .slice a5 l.length c5] 27)).alloc (.cells #[.int .i64 k, .int .i64 n, .int .u64 u, .string s, .slice b4 keys.length d4, .slice b5 l2.length d5] 27)).trans hg3)
  have c5' := row_cellT hb1 5 _ rfl
  have e5 := row_cellT hb2 5 _ rfl
  obtain ⟨N, hN⟩ : ∃ N, w.heap.size = N := ⟨_, rfl⟩
  rw [hN] at c5' e5 HB1 HB2 ⊢
  clear hb1 hb2 hg3 hN
  by_cases h5 : l.length = l2.length
  rotate_left
  · have hne : Hid (¬ (Tr.mk k n u s keys l = Tr.mk k n u s keys l2)) := fun e => h5 (by injection e with _ _ _ _ _ e; rw [e])
    have hB : ((l.length : Int) != l2.length) = true := by simp; omega
    go_wp2_with fail
    go_ret
    exact ⟨false, rfl, ⟨fun h => absurd h (by decide), fun h => absurd h hne.out⟩, HG.out⟩
  have HL := Lib.hid h5
  have hB : ((l.length : Int) != l2.length) = false := by rw [h5]; simp
  clear h5
  go_wp2_with fail
  clear hB
  go_loopw [5] (fun i wr => ∃ kk : Nat, kk ≤ l.length ∧ i = .int .i64 kk ∧ Hid (l.take kk = l2.take kk ∧ Grew w3 wr)) (fun i _ => l.length - (intOf i).toNat)
  case atStart => exact ⟨0, Nat.zero_le _, rfl, by show _ ∧ _; exact ⟨by simp, Grew.refl _⟩⟩
  case round =>
    obtain ⟨kk, hkk, rfl, HW⟩ := hrel
    replace c5' := HW.out.2.cell c5'
    by_cases hlt : kk < l.length
    · have hlt2 : kk < l2.length := by have := HL.out; omega
      obtain ⟨x, hx⟩ : ∃ x, l[kk]? = some x := ⟨_, List.getElem?_eq_getElem hlt⟩
      obtain ⟨y', hy'⟩ : ∃ y, l2[kk]? = some y := ⟨_, List.getElem?_eq_getElem hlt2⟩
      obtain ⟨xv, hxv, hnx⟩ := HK.out.get hx
      obtain ⟨yv, hyv, hny⟩ := HK2.out.get hy'
      have hxs := HSZ.out x (List.mem_of_getElem? hx)
      obtain ⟨b, off, rfl, hc6⟩ : ∃ b off, a5 = some ⟨b, off, none⟩ ∧ Cells6 wr b (off + kk * 6) xv := by
        obtain ⟨a, c, e, _, _, _, h⟩ := HROWS.out
        injection e with e1 e2 e3
        subst e1
        obtain ⟨b, off, e, h6⟩ := h kk xv hxv
        exact ⟨b, off, e, h6.grew (HG.out.trans HW.out.2)⟩
      obtain ⟨b', off', rfl, hd6⟩ : ∃ b off, b5 = some ⟨b, off, none⟩ ∧ Cells6 wr b (off + kk * 6) yv := by
        obtain ⟨a, c, e, _, _, _, h⟩ := HROWS2.out
        injection e with e1 e2 e3
        subst e1
        obtain ⟨b, off, e, h6⟩ := h kk yv hyv
        exact ⟨b, off, e, h6.grew (HG.out.trans HW.out.2)⟩
      obtain ⟨xk, xn, xu, xs, xa4, xn4, xc4, xa5, xn5, xc5, rfl⟩ := hnx.node6
      obtain ⟨yk, yn, yu, ys, ya4, yn4, yc4, ya5, yn5, yc5, rfl⟩ := hny.node6
      obtain ⟨p0, p1, p2, p3, p4, p5⟩ := hc6.get
      obtain ⟨q0, q1, q2, q3, q4, q5⟩ := hd6.get
      replace e5 := HW.out.2.cell e5
      have HNX := Lib.hid hnx
      have HNY := Lib.hid hny
      have HXY := Lib.hid (And.intro hx hy')
      clear hc6 hd6 hx hy' hxv hyv hnx hny
      have hlti : (kk : Int) < l.length := by omega
      have hltj : (kk : Int) < l2.length := by omega
      go_wp2_with fail
      by_cases hxy : x = y'
      · have HEQ := Lib.hid hxy
        clear hxy
        refine wp_region_tables Grew [[], [0], [], [1, 2], [3], [], [5], [], [6, 7], [8], [4, 9], [10]] [[(58, 2), (59, 3), (60, 4), (61, 5), (62, 6), (63, 7), (64, 8), (65, 9), (66, 10), (67, 11)], [(56, 0), (58, 2), (60, 4), (61, 5), (62, 6), (63, 7), (64, 8), (65, 9), (66, 10), (67, 11)], [(56, 0), (57, 1), (60, 4), (61, 5), (62, 6), (63, 7), (64, 8), (65, 9), (66, 10), (67, 11)], [(56, 0), (57, 1), (58, 2), (61, 5), (62, 6), (63, 7), (64, 8), (65, 9), (66, 10), (67, 11)], [(56, 0), (57, 1), (58, 2), (59, 3), (61, 5), (62, 6), (63, 7), (64, 8), (65, 9), (67, 11)], [(56, 0), (57, 1), (58, 2), (59, 3), (60, 4), (63, 7), (64, 8), (65, 9), (66, 10), (67, 11)], [(56, 0), (57, 1), (58, 2), (59, 3), (60, 4), (61, 5), (63, 7), (65, 9), (66, 10), (67, 11)], [(56, 0), (57, 1), (58, 2), (59, 3), (60, 4), (61, 5), (62, 6), (65, 9), (66, 10), (67, 11)], [(56, 0), (57, 1), (58, 2), (59, 3), (60, 4), (61, 5), (62, 6), (63, 7), (66, 10), (67, 11)], [(56, 0), (57, 1), (58, 2), (59, 3), (60, 4), (61, 5), (62, 6), (63, 7), (64, 8), (67, 11)], [(56, 0), (57, 1), (58, 2), (59, 3), (60, 4), (61, 5), (62, 6), (63, 7), (64, 8), (65, 9)], [(56, 0), (57, 1), (58, 2), (59, 3), (60, 4), (61, 5), (62, 6), (63, 7), (64, 8), (65, 9), (66, 10)]] [(56, 0), (57, 1), (58, 2), (59, 3), (60, 4), (61, 5), (62, 6), (63, 7), (64, 8), (65, 9), (66, 10), (67, 11)]
          [Is (.pointer (some ⟨N, 5, none⟩)), Is (.slice (some ⟨b, off, none⟩) l.length c5), Is (.int .i64 kk), Is (.pointer (some ⟨b, off + kk * 6, none⟩)), Is (.agg #[.int .i64 xk, .int .i64 xn, .int .u64 xu, .string xs, .slice xa4 xn4 xc4, .slice xa5 xn5 xc5]), Is (.pointer (some ⟨N + 1, 5, none⟩)), Is (.slice (some ⟨b', off', none⟩) l2.length d5), Is (.int .i64 kk), Is (.pointer (some ⟨b', off' + kk * 6, none⟩)), Is (.agg #[.int .i64 yk, .int .i64 yn, .int .u64 yu, .string ys, .slice ya4 yn4 yc4, .slice ya5 yn5 yc5]), Is (.bool true), Is (.bool false)]
          (by kernel_rfl) Grew.trans Grew.refl (Grew.refl _).drew (by kernel_rfl) ⟨is_st, is_st, is_st, is_st, is_st, is_st, is_st, is_st, is_st, is_st, is_st, is_st, trivial⟩ ⟨?_, ?_, ?_, ?_, ?_, ?_, ?_, ?_, ?_, ?_, ?_, ?_, trivial⟩ rfl ?_
        · intro y w2' hG hD K hK
          simp only [fillL, Act.put, List.setIfInBounds_toArray, List.set_cons_zero, List.set_cons_succ, List.getD_cons_zero, List.getD_cons_succ, Is] at hK ⊢
          refine ite_yes (by rfl) ?_
          go_simp
          exact hK _ _ _ rfl (Grew.refl _) rfl
        · intro y w2' hG hD K hK
          simp only [depsH, List.getD_cons_zero, List.getD_cons_succ, Is, and_true] at hD
          have h0 := hD
          clear hD
          have dc5' := hG.cell c5'
          have de5 := hG.cell e5
          have dp0 := hG.cell p0
          have dp1 := hG.cell p1
          have dp2 := hG.cell p2
          have dp3 := hG.cell p3
          have dp4 := hG.cell p4
          have dp5 := hG.cell p5
          have dq0 := hG.cell q0
          have dq1 := hG.cell q1
          have dq2 := hG.cell q2
          have dq3 := hG.cell q3
          have dq4 := hG.cell q4
          have dq5 := hG.cell q5
          simp only [fillL, Act.put, List.setIfInBounds_toArray, List.set_cons_zero, List.set_cons_succ, List.getD_cons_zero, List.getD_cons_succ, Is] at hK ⊢
          rw [h0] at hK ⊢
          clear h0
          refine ite_yes (by rfl) ?_
          go_simp
          exact hK _ _ _ rfl (Grew.refl _) rfl
        · intro y w2' hG hD K hK
          simp only [fillL, Act.put, List.setIfInBounds_toArray, List.set_cons_zero, List.set_cons_succ, List.getD_cons_zero, List.getD_cons_succ, Is] at hK ⊢
          refine ite_yes (by rfl) ?_
          go_simp
          exact hK _ _ _ rfl (Grew.refl _) rfl
        · intro y w2' hG hD K hK
          simp only [depsH, List.getD_cons_zero, List.getD_cons_succ, Is, and_true] at hD
          have h1 := hD.1
          have h2 := hD.2
          clear hD
          simp only [fillL, Act.put, List.setIfInBounds_toArray, List.set_cons_zero, List.set_cons_succ, List.getD_cons_zero, List.getD_cons_succ, Is] at hK ⊢
          rw [h1, h2] at hK ⊢
          clear h1 h2
          refine ite_yes (by rfl) ?_
          go_simp
          exact hK _ _ _ rfl (Grew.refl _) rfl
        · intro y w2' hG hD K hK
          simp only [depsH, List.getD_cons_zero, List.getD_cons_succ, Is, and_true] at hD
          have h3 := hD
          clear hD
          have dc5' := hG.cell c5'
          have de5 := hG.cell e5
          have dp0 := hG.cell p0
          have dp1 := hG.cell p1
          have dp2 := hG.cell p2
          have dp3 := hG.cell p3
          have dp4 := hG.cell p4
          have dp5 := hG.cell p5
          have dq0 := hG.cell q0
          have dq1 := hG.cell q1
          have dq2 := hG.cell q2
          have dq3 := hG.cell q3
          have dq4 := hG.cell q4
          have dq5 := hG.cell q5
          simp only [fillL, Act.put, List.setIfInBounds_toArray, List.set_cons_zero, List.set_cons_succ, List.getD_cons_zero, List.getD_cons_succ, Is] at hK ⊢
          rw [h3] at hK ⊢
          clear h3
          refine ite_yes (by rfl) ?_
          go_simp
          exact hK _ _ _ rfl (Grew.refl _) rfl
        · intro y w2' hG hD K hK
          simp only [fillL, Act.put, List.setIfInBounds_toArray, List.set_cons_zero, List.set_cons_succ, List.getD_cons_zero, List.getD_cons_succ, Is] at hK ⊢
          refine ite_yes (by rfl) ?_
          go_simp
          exact hK _ _ _ rfl (Grew.refl _) rfl
        · intro y w2' hG hD K hK
          simp only [depsH, List.getD_cons_zero, List.getD_cons_succ, Is, and_true] at hD
          have h5 := hD
          clear hD
          have dc5' := hG.cell c5'
          have de5 := hG.cell e5
          have dp0 := hG.cell p0
          have dp1 := hG.cell p1
          have dp2 := hG.cell p2
          have dp3 := hG.cell p3
          have dp4 := hG.cell p4
          have dp5 := hG.cell p5
          have dq0 := hG.cell q0
          have dq1 := hG.cell q1
          have dq2 := hG.cell q2
          have dq3 := hG.cell q3
          have dq4 := hG.cell q4
          have dq5 := hG.cell q5
          simp only [fillL, Act.put, List.setIfInBounds_toArray, List.set_cons_zero, List.set_cons_succ, List.getD_cons_zero, List.getD_cons_succ, Is] at hK ⊢
          rw [h5] at hK ⊢
          clear h5
          refine ite_yes (by rfl) ?_
          go_simp
          exact hK _ _ _ rfl (Grew.refl _) rfl
        · intro y w2' hG hD K hK
          simp only [fillL, Act.put, List.setIfInBounds_toArray, List.set_cons_zero, List.set_cons_succ, List.getD_cons_zero, List.getD_cons_succ, Is] at hK ⊢
          refine ite_yes (by rfl) ?_
          go_simp
          exact hK _ _ _ rfl (Grew.refl _) rfl
        · intro y w2' hG hD K hK
          simp only [depsH, List.getD_cons_zero, List.getD_cons_succ, Is, and_true] at hD
          have h6 := hD.1
          have h7 := hD.2
          clear hD
          simp only [fillL, Act.put, List.setIfInBounds_toArray, List.set_cons_zero, List.set_cons_succ, List.getD_cons_zero, List.getD_cons_succ, Is] at hK ⊢
          rw [h6, h7] at hK ⊢
          clear h6 h7
          refine ite_yes (by rfl) ?_
          go_simp
          exact hK _ _ _ rfl (Grew.refl _) rfl
        · intro y w2' hG hD K hK
          simp only [depsH, List.getD_cons_zero, List.getD_cons_succ, Is, and_true] at hD
          have h8 := hD
          clear hD
          have dc5' := hG.cell c5'
          have de5 := hG.cell e5
          have dp0 := hG.cell p0
          have dp1 := hG.cell p1
          have dp2 := hG.cell p2
          have dp3 := hG.cell p3
          have dp4 := hG.cell p4
          have dp5 := hG.cell p5
          have dq0 := hG.cell q0
          have dq1 := hG.cell q1
          have dq2 := hG.cell q2
          have dq3 := hG.cell q3
          have dq4 := hG.cell q4
          have dq5 := hG.cell q5
          simp only [fillL, Act.put, List.setIfInBounds_toArray, List.set_cons_zero, List.set_cons_succ, List.getD_cons_zero, List.getD_cons_succ, Is] at hK ⊢
          rw [h8] at hK ⊢
          clear h8
          refine ite_yes (by rfl) ?_
          go_simp
          exact hK _ _ _ rfl (Grew.refl _) rfl
        · intro y w2' hG hD K hK
          simp only [depsH, List.getD_cons_zero, List.getD_cons_succ, Is, and_true] at hD
          have h4 := hD.1
          have h9 := hD.2
          clear hD
          simp only [fillL, Act.put, List.setIfInBounds_toArray, List.set_cons_zero, List.set_cons_succ, List.getD_cons_zero, List.getD_cons_succ, Is] at hK ⊢
          rw [h4, h9] at hK ⊢
          clear h4 h9
          refine ite_yes (by rfl) ?_
          go_simp
          refine (ih x hxs y' _ _ _ (HNX.out.grew (HG.out.trans (HW.out.2.trans hG))) (HNY.out.grew (HG.out.trans (HW.out.2.trans hG)))).mono ?_
          rintro r w4 ⟨bb, rfl, hbb, hg⟩
          obtain rfl : bb = true := hbb.2 HEQ.out
          exact hK _ _ _ rfl hg rfl
        · intro y w2' hG hD K hK
          simp only [depsH, List.getD_cons_zero, List.getD_cons_succ, Is, and_true] at hD
          have h10 := hD
          clear hD
          simp only [fillL, Act.put, List.setIfInBounds_toArray, List.set_cons_zero, List.set_cons_succ, List.getD_cons_zero, List.getD_cons_succ, Is] at hK ⊢
          rw [h10] at hK ⊢
          clear h10
          refine ite_yes (by rfl) ?_
          go_simp
          exact hK _ _ _ rfl (Grew.refl _) rfl
        · intro y w2' hG hF
          simp only [factsH, Is, and_true, Nat.reduceAdd] at hF
          have h0 := hF.1
          have h1 := hF.2.1
          have h2 := hF.2.2.1
          have h3 := hF.2.2.2.1
          have h4 := hF.2.2.2.2.1
          have h5 := hF.2.2.2.2.2.1
          have h6 := hF.2.2.2.2.2.2.1
          have h7 := hF.2.2.2.2.2.2.2.1
          have h8 := hF.2.2.2.2.2.2.2.2.1
          have h9 := hF.2.2.2.2.2.2.2.2.2.1
          have h10 := hF.2.2.2.2.2.2.2.2.2.2.1
          have h11 := hF.2.2.2.2.2.2.2.2.2.2.2
          clear hF
          simp only [fillL, Act.put, List.setIfInBounds_toArray, List.set_cons_zero, List.set_cons_succ, List.getD_cons_zero, List.getD_cons_succ, Is]
          rw [h0, h1, h2, h3, h4, h5, h6, h7, h8, h9, h10, h11]
          clear h0 h1 h2 h3 h4 h5 h6 h7 h8 h9 h10 h11
          have HGW := Lib.hid (HW.out.2.trans hG)
          clear hG
          go_wp2_with fail
          go_roundw
          case rel => exact ⟨kk + 1, by omega, by go_num, by
            show _ ∧ _
            obtain ⟨h1, h2⟩ := HXY.out
            exact ⟨by rw [List.take_add_one, List.take_add_one, HW.out.1, h1, h2, HEQ.out], HGW.out⟩⟩
          case measure => simp [intOf]; omega
      · have HEQ := Lib.hid hxy
        clear hxy
        refine wp_region_tables Grew [[], [0], [], [1, 2], [3], [], [5], [], [6, 7], [8], [4, 9], [10]] [[(58, 2), (59, 3), (60, 4), (61, 5), (62, 6), (63, 7), (64, 8), (65, 9), (66, 10), (67, 11)], [(56, 0), (58, 2), (60, 4), (61, 5), (62, 6), (63, 7), (64, 8), (65, 9), (66, 10), (67, 11)], [(56, 0), (57, 1), (60, 4), (61, 5), (62, 6), (63, 7), (64, 8), (65, 9), (66, 10), (67, 11)], [(56, 0), (57, 1), (58, 2), (61, 5), (62, 6), (63, 7), (64, 8), (65, 9), (66, 10), (67, 11)], [(56, 0), (57, 1), (58, 2), (59, 3), (61, 5), (62, 6), (63, 7), (64, 8), (65, 9), (67, 11)], [(56, 0), (57, 1), (58, 2), (59, 3), (60, 4), (63, 7), (64, 8), (65, 9), (66, 10), (67, 11)], [(56, 0), (57, 1), (58, 2), (59, 3), (60, 4), (61, 5), (63, 7), (65, 9), (66, 10), (67, 11)], [(56, 0), (57, 1), (58, 2), (59, 3), (60, 4), (61, 5), (62, 6), (65, 9), (66, 10), (67, 11)], [(56, 0), (57, 1), (58, 2), (59, 3), (60, 4), (61, 5), (62, 6), (63, 7), (66, 10), (67, 11)], [(56, 0), (57, 1), (58, 2), (59, 3), (60, 4), (61, 5), (62, 6), (63, 7), (64, 8), (67, 11)], [(56, 0), (57, 1), (58, 2), (59, 3), (60, 4), (61, 5), (62, 6), (63, 7), (64, 8), (65, 9)], [(56, 0), (57, 1), (58, 2), (59, 3), (60, 4), (61, 5), (62, 6), (63, 7), (64, 8), (65, 9), (66, 10)]] [(56, 0), (57, 1), (58, 2), (59, 3), (60, 4), (61, 5), (62, 6), (63, 7), (64, 8), (65, 9), (66, 10), (67, 11)]
          [Is (.pointer (some ⟨N, 5, none⟩)), Is (.slice (some ⟨b, off, none⟩) l.length c5), Is (.int .i64 kk), Is (.pointer (some ⟨b, off + kk * 6, none⟩)), Is (.agg #[.int .i64 xk, .int .i64 xn, .int .u64 xu, .string xs, .slice xa4 xn4 xc4, .slice xa5 xn5 xc5]), Is (.pointer (some ⟨N + 1, 5, none⟩)), Is (.slice (some ⟨b', off', none⟩) l2.length d5), Is (.int .i64 kk), Is (.pointer (some ⟨b', off' + kk * 6, none⟩)), Is (.agg #[.int .i64 yk, .int .i64 yn, .int .u64 yu, .string ys, .slice ya4 yn4 yc4, .slice ya5 yn5 yc5]), Is (.bool false), Is (.bool true)]
          (by kernel_rfl) Grew.trans Grew.refl (Grew.refl _).drew (by kernel_rfl) ⟨is_st, is_st, is_st, is_st, is_st, is_st, is_st, is_st, is_st, is_st, is_st, is_st, trivial⟩ ⟨?_, ?_, ?_, ?_, ?_, ?_, ?_, ?_, ?_, ?_, ?_, ?_, trivial⟩ rfl ?_
        · intro y w2' hG hD K hK
          simp only [fillL, Act.put, List.setIfInBounds_toArray, List.set_cons_zero, List.set_cons_succ, List.getD_cons_zero, List.getD_cons_succ, Is] at hK ⊢
          refine ite_yes (by rfl) ?_
          go_simp
          exact hK _ _ _ rfl (Grew.refl _) rfl
        · intro y w2' hG hD K hK
          simp only [depsH, List.getD_cons_zero, List.getD_cons_succ, Is, and_true] at hD
          have h0 := hD
          clear hD
          have dc5' := hG.cell c5'
          have de5 := hG.cell e5
          have dp0 := hG.cell p0
          have dp1 := hG.cell p1
          have dp2 := hG.cell p2
          have dp3 := hG.cell p3
          have dp4 := hG.cell p4
          have dp5 := hG.cell p5
          have dq0 := hG.cell q0
          have dq1 := hG.cell q1
          have dq2 := hG.cell q2
          have dq3 := hG.cell q3
          have dq4 := hG.cell q4
          have dq5 := hG.cell q5
          simp only [fillL, Act.put, List.setIfInBounds_toArray, List.set_cons_zero, List.set_cons_succ, List.getD_cons_zero, List.getD_cons_succ, Is] at hK ⊢
          rw [h0] at hK ⊢
          clear h0
          refine ite_yes (by rfl) ?_
          go_simp
          exact hK _ _ _ rfl (Grew.refl _) rfl
        · intro y w2' hG hD K hK
          simp only [fillL, Act.put, List.setIfInBounds_toArray, List.set_cons_zero, List.set_cons_succ, List.getD_cons_zero, List.getD_cons_succ, Is] at hK ⊢
          refine ite_yes (by rfl) ?_
          go_simp
          exact hK _ _ _ rfl (Grew.refl _) rfl
        · intro y w2' hG hD K hK
          simp only [depsH, List.getD_cons_zero, List.getD_cons_succ, Is, and_true] at hD
          have h1 := hD.1
          have h2 := hD.2
          clear hD
          simp only [fillL, Act.put, List.setIfInBounds_toArray, List.set_cons_zero, List.set_cons_succ, List.getD_cons_zero, List.getD_cons_succ, Is] at hK ⊢
          rw [h1, h2] at hK ⊢
          clear h1 h2
          refine ite_yes (by rfl) ?_
          go_simp
          exact hK _ _ _ rfl (Grew.refl _) rfl
        · intro y w2' hG hD K hK
          simp only [depsH, List.getD_cons_zero, List.getD_cons_succ, Is, and_true] at hD
          have h3 := hD
          clear hD
          have dc5' := hG.cell c5'
          have de5 := hG.cell e5
          have dp0 := hG.cell p0
          have dp1 := hG.cell p1
          have dp2 := hG.cell p2
          have dp3 := hG.cell p3
          have dp4 := hG.cell p4
          have dp5 := hG.cell p5
          have dq0 := hG.cell q0
          have dq1 := hG.cell q1
          have dq2 := hG.cell q2
          have dq3 := hG.cell q3
          have dq4 := hG.cell q4
          have dq5 := hG.cell q5
          simp only [fillL, Act.put, List.setIfInBounds_toArray, List.set_cons_zero, List.set_cons_succ, List.getD_cons_zero, List.getD_cons_succ, Is] at hK ⊢
          rw [h3] at hK ⊢
          clear h3
          refine ite_yes (by rfl) ?_
          go_simp
          exact hK _ _ _ rfl (Grew.refl _) rfl
        · intro y w2' hG hD K hK
          simp only [fillL, Act.put, List.setIfInBounds_toArray, List.set_cons_zero, List.set_cons_succ, List.getD_cons_zero, List.getD_cons_succ, Is] at hK ⊢
          refine ite_yes (by rfl) ?_
          go_simp
          exact hK _ _ _ rfl (Grew.refl _) rfl
        · intro y w2' hG hD K hK
          simp only [depsH, List.getD_cons_zero, List.getD_cons_succ, Is, and_true] at hD
          have h5 := hD
          clear hD
          have dc5' := hG.cell c5'
          have de5 := hG.cell e5
          have dp0 := hG.cell p0
          have dp1 := hG.cell p1
          have dp2 := hG.cell p2
          have dp3 := hG.cell p3
          have dp4 := hG.cell p4
          have dp5 := hG.cell p5
          have dq0 := hG.cell q0
          have dq1 := hG.cell q1
          have dq2 := hG.cell q2
          have dq3 := hG.cell q3
          have dq4 := hG.cell q4
          have dq5 := hG.cell q5
          simp only [fillL, Act.put, List.setIfInBounds_toArray, List.set_cons_zero, List.set_cons_succ, List.getD_cons_zero, List.getD_cons_succ, Is] at hK ⊢
          rw [h5] at hK ⊢
          clear h5
          refine ite_yes (by rfl) ?_
          go_simp
          exact hK _ _ _ rfl (Grew.refl _) rfl
        · intro y w2' hG hD K hK
          simp only [fillL, Act.put, List.setIfInBounds_toArray, List.set_cons_zero, List.set_cons_succ, List.getD_cons_zero, List.getD_cons_succ, Is] at hK ⊢
          refine ite_yes (by rfl) ?_
          go_simp
          exact hK _ _ _ rfl (Grew.refl _) rfl
        · intro y w2' hG hD K hK
          simp only [depsH, List.getD_cons_zero, List.getD_cons_succ, Is, and_true] at hD
          have h6 := hD.1
          have h7 := hD.2
          clear hD
          simp only [fillL, Act.put, List.setIfInBounds_toArray, List.set_cons_zero, List.set_cons_succ, List.getD_cons_zero, List.getD_cons_succ, Is] at hK ⊢
          rw [h6, h7] at hK ⊢
          clear h6 h7
          refine ite_yes (by rfl) ?_
          go_simp
          exact hK _ _ _ rfl (Grew.refl _) rfl
        · intro y w2' hG hD K hK
          simp only [depsH, List.getD_cons_zero, List.getD_cons_succ, Is, and_true] at hD
          have h8 := hD
          clear hD
          have dc5' := hG.cell c5'
          have de5 := hG.cell e5
          have dp0 := hG.cell p0
          have dp1 := hG.cell p1
          have dp2 := hG.cell p2
          have dp3 := hG.cell p3
          have dp4 := hG.cell p4
          have dp5 := hG.cell p5
          have dq0 := hG.cell q0
          have dq1 := hG.cell q1
          have dq2 := hG.cell q2
          have dq3 := hG.cell q3
          have dq4 := hG.cell q4
          have dq5 := hG.cell q5
          simp only [fillL, Act.put, List.setIfInBounds_toArray, List.set_cons_zero, List.set_cons_succ, List.getD_cons_zero, List.getD_cons_succ, Is] at hK ⊢
          rw [h8] at hK ⊢
          clear h8
          refine ite_yes (by rfl) ?_
          go_simp
          exact hK _ _ _ rfl (Grew.refl _) rfl
        · intro y w2' hG hD K hK
          simp only [depsH, List.getD_cons_zero, List.getD_cons_succ, Is, and_true] at hD
          have h4 := hD.1
          have h9 := hD.2
          clear hD
          simp only [fillL, Act.put, List.setIfInBounds_toArray, List.set_cons_zero, List.set_cons_succ, List.getD_cons_zero, List.getD_cons_succ, Is] at hK ⊢
          rw [h4, h9] at hK ⊢
          clear h4 h9
          refine ite_yes (by rfl) ?_
          go_simp
          refine (ih x hxs y' _ _ _ (HNX.out.grew (HG.out.trans (HW.out.2.trans hG))) (HNY.out.grew (HG.out.trans (HW.out.2.trans hG)))).mono ?_
          rintro r w4 ⟨bb, rfl, hbb, hg⟩
          obtain rfl : bb = false := by cases bb; rfl; exact absurd (hbb.1 rfl) HEQ.out
          exact hK _ _ _ rfl hg rfl
        · intro y w2' hG hD K hK
          simp only [depsH, List.getD_cons_zero, List.getD_cons_succ, Is, and_true] at hD
          have h10 := hD
          clear hD
          simp only [fillL, Act.put, List.setIfInBounds_toArray, List.set_cons_zero, List.set_cons_succ, List.getD_cons_zero, List.getD_cons_succ, Is] at hK ⊢
          rw [h10] at hK ⊢
          clear h10
          refine ite_yes (by rfl) ?_
          go_simp
          exact hK _ _ _ rfl (Grew.refl _) rfl
        · intro y w2' hG hF
          simp only [factsH, Is, and_true, Nat.reduceAdd] at hF
          have h0 := hF.1
          have h1 := hF.2.1
          have h2 := hF.2.2.1
          have h3 := hF.2.2.2.1
          have h4 := hF.2.2.2.2.1
          have h5 := hF.2.2.2.2.2.1
          have h6 := hF.2.2.2.2.2.2.1
          have h7 := hF.2.2.2.2.2.2.2.1
          have h8 := hF.2.2.2.2.2.2.2.2.1
          have h9 := hF.2.2.2.2.2.2.2.2.2.1
          have h10 := hF.2.2.2.2.2.2.2.2.2.2.1
          have h11 := hF.2.2.2.2.2.2.2.2.2.2.2
          clear hF
          simp only [fillL, Act.put, List.setIfInBounds_toArray, List.set_cons_zero, List.set_cons_succ, List.getD_cons_zero, List.getD_cons_succ, Is]
          rw [h0, h1, h2, h3, h4, h5, h6, h7, h8, h9, h10, h11]
          clear h0 h1 h2 h3 h4 h5 h6 h7 h8 h9 h10 h11
          have HGW := Lib.hid (HW.out.2.trans hG)
          clear hG
          have hne : Hid (¬ (Tr.mk k n u s keys l = Tr.mk k n u s keys l2)) := fun e => HEQ.out (by
            injection e with _ _ _ _ _ e
            obtain ⟨h1, h2⟩ := HXY.out
            rw [e, h2] at h1
            injection h1 with h1
            exact h1.symm)
          go_wp2_with fail
          go_ret
          exact ⟨false, rfl, ⟨fun h => absurd h (by decide), fun h => absurd h hne.out⟩, HG.out.trans HGW.out⟩
    · have ek : kk = l.length := by omega
      subst ek
      have heq : Hid (l = l2) := by
        show _ = _
        have h := HW.out.1
        rw [List.take_length, HL.out, List.take_length] at h
        exact h
      go_wp2_with fail
      go_ret
      exact ⟨true, rfl, ⟨fun _ => by rw [heq.out], fun _ => rfl⟩, HG.out.trans HW.out.2⟩
end Go.Proofs.Ytlhliolknaopjaa

/-
  Trees: the program's copies (slices.Clone of strings, tree.Copy). Conditions: the node lies in memory; rows of at most 4096.
-/
namespace Go.Proofs.Ytlhliolknaopjaa
open Go Go.ChangeShapes Go.WideShapes Go.ChangeAt Go.RowKit Go.Joins Go.Deep
set_option linter.unusedVariables false
set_option linter.unusedSimpArgs false

theorem OwnS.empty (w : World) : OwnS (w.alloc (.cells #[] 9)) w.heap.size (.slice (some ⟨w.heap.size, 0, none⟩) 0 0) [] := World.ownsRow_made w #[] 0 (Nat.le_refl _) (by decide) rfl
set_option maxRecDepth 100000 in
theorem clone_any (w : World) (v : Value) (l : List ByteArray) (h : StrsAt w v l) (hl : l.length ≤ 1099511627776) :
    Calls Try.prog 69 #[v] w fun r w' => ∃ v', r = .returned v' ∧ OwnS w' w.heap.size v' l ∧ Grew w w' := by
  have HX := Lib.hid h
  obtain ⟨a, c, rfl, _, _, hnil, hcell⟩ := h
  cases a with
  | none =>
    obtain rfl := hnil rfl
    have h0 : l = [] := by
      cases l with
      | nil => rfl
      | cons y r => obtain ⟨_, b, off, e, _⟩ := hcell 0 y rfl; cases e
    subst h0
    clear hcell hnil
    go_enter Try.func69, Try.ntmps69
    have hq : ∀ w0 : World, Sem.run Try.prog (binOp .eql 24 (.slice none 0 0) (.slice none 0 0)) w0 = .ok (.bool true) w0 := fun w0 => Lib.run_eql_slice_nil w0 24 9 none 0 0 0 0 Try.underlying24
    go_wp2
    go_ret
    exact ⟨_, rfl, OwnS.nil _ _, Grew.refl _⟩
  | some ad =>
    clear hcell hnil
    have hq : ∀ w0 : World, Sem.run Try.prog (binOp .eql 24 (.slice (some ad) l.length c) (.slice none 0 0)) w0 = .ok (.bool false) w0 := fun w0 => Lib.run_eql_slice_nil w0 24 9 (some ad) l.length c 0 0 Try.underlying24
    have hown : Hid (∀ T, T = 9 → OwnS (w.alloc (.cells #[] T)) w.heap.size (.slice (some ⟨w.heap.size, 0, none⟩) 0 0) []) := fun T e => by subst e; exact OwnS.empty w
    go_enter Try.func69, Try.ntmps69
    go_wp2_with (at_builtin; refine wpList_appendS rfl _ _ rfl w.heap.size (.slice (some ⟨w.heap.size, 0, none⟩) 0 0) [] rfl (hown.out _ rfl) _ l rfl (HX.out.grew ((Grew.refl w).alloc _)) (by simp; omega) (by simp) ?_; intro v' w3 hown2 hgr hqq; obtain ⟨va2, vc2, rfl, _, _, _⟩ := rows_form hown2; have HO := Lib.hid (And.intro hown2 (grew_row (hown.out _ rfl) ((Grew.refl w).alloc _) hgr)); clear hown2 hgr hqq)
    go_ret
    exact ⟨_, rfl, by simpa using HO.out.1, HO.out.2⟩
set_option maxRecDepth 100000 in
set_option maxHeartbeats 4000000 in
theorem treecopy_any : ∀ (m : Nat) (t : Tr), t.size ≤ m → ∀ (v : Value) (w : World), NodeAt w t v → Few t →
    Calls Try.prog 41 #[v] w fun r w' => ∃ v', r = .returned v' ∧ OwnT w' w.heap.size t v' (Fresh w w') ∧ Grew w w' := by
  intro m
  induction m with
  | zero => intro t ht; have := t.size_pos; omega
  | succ m ih =>
  intro t ht v w hn hf
  obtain ⟨k, n, u, s, keys, l⟩ := t
  simp only [NodeAt] at hn
  obtain ⟨hb, kv, lv, vs, rfl, hks, hrows, hkids⟩ := hn
  simp only [Few] at hf
  obtain ⟨hf1, hf2, hf3⟩ := hf
  have hkl : vs.length = l.length := hkids.length
  have HKS := Lib.hid hks
  have HK := Lib.hid hkids
  have HF3 := Lib.hid hf3
  have HB := Lib.hid hb
  obtain ⟨a4, c4, rfl, hx1, hx2, hx3, hx4⟩ := hks
  clear hx1 hx2 hx3 hx4
  have HROWS := Lib.hid hrows
  obtain ⟨a5, c5, rfl, hx1, hc5, hx3, hx4⟩ := hrows
  clear hx1 hx3 hx4
  rw [hkl] at HROWS ⊢
  have hkz : Hid (∀ x ∈ keys, lenok x.size) := fun x hx => by
    obtain ⟨_, _, _, _, _, _, h⟩ := HKS.out
    obtain ⟨i, hi, rfl⟩ := List.mem_iff_getElem.1 hx
    exact (h i _ (List.getElem?_eq_getElem hi)).1
  have hsz : ∀ x ∈ l, x.size ≤ m := fun x hx => by have := size_mem hx; simp only [Tr.size] at ht; omega
  have HSZ := Lib.hid hsz
  clear hkids hf3 hb hsz ht hkl hc5
  go_enter Try.func41, Try.ntmps41
  go_wp2_with fail
  have hb1 := heap_alloc_new w (.cells #[.int .i64 k, .int .i64 n, .int .u64 u, .string s, .slice a4 keys.length c4, .slice a5 l.length c5] 27)
  have hg1 := (Grew.refl w).alloc (.cells #[.int .i64 k, .int .i64 n, .int .u64 u, .string s, .slice a4 keys.length c4, .slice a5 l.length c5] 27)
  have hs1 : (w.alloc (.cells #[.int .i64 k, .int .i64 n, .int .u64 u, .string s, .slice a4 keys.length c4, .slice a5 l.length c5] 27)).heap.size = w.heap.size + 1 := World.size_alloc _ _
  generalize (w.alloc (.cells #[.int .i64 k, .int .i64 n, .int .u64 u, .string s, .slice a4 keys.length c4, .slice a5 l.length c5] 27)) = w1 at *
  have hb2 := heap_alloc_new w1 (.cells #[.int .i64 0, .int .i64 0, .int .u64 0, .string ⟨#[]⟩, .slice none 0 0, .slice none 0 0] 27)
  have hg2 := (Grew.refl w1).alloc (.cells #[.int .i64 0, .int .i64 0, .int .u64 0, .string ⟨#[]⟩, .slice none 0 0, .slice none 0 0] 27)
  have hs2 : (w1.alloc (.cells #[.int .i64 0, .int .i64 0, .int .u64 0, .string ⟨#[]⟩, .slice none 0 0, .slice none 0 0] 27)).heap.size = w1.heap.size + 1 := World.size_alloc _ _
  rw [hs1] at hb2 hs2
  generalize (w1.alloc (.cells #[.int .i64 0, .int .i64 0, .int .u64 0, .string ⟨#[]⟩, .slice none 0 0, .slice none 0 0] 27)) = w2 at *
  replace hb1 := hg2.heap hb1
  have hG := hg1.trans hg2
  have hs2' : w2.heap.size = w.heap.size + 2 := by omega
  obtain ⟨N, hN⟩ : ∃ N, w.heap.size = N := ⟨_, rfl⟩
  rw [hN] at hb1 hb2 hs2' ⊢
  have HN := Lib.hid hN
  have HS2 := Lib.hid hs2'
  have HG0 := Lib.hid hG
  clear hs1 hs2 hs2' hg1 hg2 hN
  refine (clone_any _ _ _ (HKS.out.grew hG) (by omega)).mono ?_
  rintro r w2' ⟨kv', rfl, hkv, hgk⟩
  obtain ⟨va, vc, rfl, hz1, hz2, hz3⟩ := rows_form hkv
  replace hb1 := hgk.heap hb1
  replace hb2 := hgk.heap hb2
  have q5 := row_frozen hb1 4
  have q4 := row_cellT hb1 4 _ rfl
  obtain ⟨w3, hw3⟩ : ∃ w3, w2'.setCell ⟨N, 4, none⟩ (.slice va keys.length vc) = w3 := ⟨_, rfl⟩
  have hm3 : Moved (fun g => g = N) w2' w3 := by rw [← hw3]; exact Moved.setCell (S := fun g => g = N) (p := ⟨N, 4, none⟩) (Moved.refl _ w2') (fun _ => rfl) _
  have hb3 : w3.heap[N]? = some (.cells #[.int .i64 k, .int .i64 n, .int .u64 u, .string s, .slice va keys.length vc, .slice a5 l.length c5] 27 (0, 0)) := by
    rw [← hw3]
    have := heap_setCell_same w2' N 4 _ _ (.slice va keys.length vc) hb1
    simpa using this
  have HB1' := Lib.hid hb3
  have HROW := Lib.hid hb3
  have HB2' := Lib.hid (hm3.heap hb2 (by omega))
  have HKV : Hid (OwnS w3 (N + 2) (.slice va keys.length vc) keys) := rows_base (Moved.owns hm3 hkv (fun g hg e => not_block hkv hb1 (by decide) (by rw [hg, e]))) (by have := HS2.out; omega)
  have HG3 : Hid (Grew w w3) := Moved.fresh (hG.trans hgk) hm3 (fun g h => by have := HN.out; omega)
  have HW3 := Lib.hid hw3
  have l5 := row_cellT hb1 5 _ rfl
  clear hb1 hb2 hb3 hm3 hw3 hkv hG hz1 hz2 hz3 hgk
  go_wp2_with fail
  rw [HW3.out]
  clear q4 q5
  go_loopw [3, 13] (fun v i wr => ∃ kk : Nat, kk ≤ l.length ∧ i = .int .i64 kk ∧ Hid (Grow (fun _ => False) w3 wr v (l.take kk))) (fun _ i _ => l.length - (intOf i).toNat)
  case atStart => exact ⟨0, Nat.zero_le _, rfl, by show Grow _ _ _ _ _; exact Grow.start _ _⟩
  case round =>
    obtain ⟨kk, hkk, rfl, HW⟩ := hrel
    have hgw : Grew w3 wr := by obtain ⟨_, _, _, _, _, hm⟩ := HW.out; exact Moved.fresh (Grew.refl _) hm (fun g h => h.elim)
    have HGW := Lib.hid hgw
    clear hgw
    by_cases hlt : kk < l.length
    · obtain ⟨x, hx⟩ : ∃ x, l[kk]? = some x := ⟨_, List.getElem?_eq_getElem hlt⟩
      obtain ⟨xv, hxv, hnx⟩ := HK.out.get hx
      have hxm : x ∈ l := List.mem_of_getElem? hx
      have HX := Lib.hid (show l.take kk ++ [x] = l.take (kk + 1) by rw [List.take_add_one, hx]; rfl)
      have HFX := Lib.hid (HF3.out.mem hxm)
      have hxs := HSZ.out x hxm
      have hcall : Hid (∀ w', Grew w w' → NodeAt w' x xv) := fun w' hg => hnx.grew hg
      obtain ⟨b, off, rfl, hc6⟩ : ∃ b off, a5 = some ⟨b, off, none⟩ ∧ Cells6 wr b (off + kk * 6) xv := by
        obtain ⟨a, c, e, _, _, _, h⟩ := HROWS.out
        injection e with e1 e2 e3
        subst e1
        obtain ⟨b, off, e, h6⟩ := h kk xv hxv
        exact ⟨b, off, e, h6.grew (HG3.out.trans HGW.out)⟩
      obtain ⟨xk, xn, xu, xs, xa4, xn4, xc4, xa5, xn5, xc5, rfl⟩ := hnx.node6
      obtain ⟨e0, e1, e2, e3, e4, e5⟩ := hc6.get
      clear hc6 hx hxv hnx hxm
      have hlti : (kk : Int) < l.length := by omega
      go_wp2_with fail
      have HGR := Lib.hid ((Grew.refl wr).alloc (.cells #[.int .i64 xk, .int .i64 xn, .int .u64 xu, .string xs, .slice xa4 xn4 xc4, .slice xa5 xn5 xc5] 27))
      generalize (wr.alloc (.cells #[.int .i64 xk, .int .i64 xn, .int .u64 xu, .string xs, .slice xa4 xn4 xc4, .slice xa5 xn5 xc5] 27)) = ws at *
      have HWS : Hid (Grow (fun _ => False) w3 ws u3 (l.take kk)) := HW.out.kept (Moved.of_grew HGR.out) (fun _ h => h.elim) (fun _ h => h)
      refine (ih x hxs _ ws (hcall.out ws (HG3.out.trans (HGW.out.trans HGR.out))) HFX.out).mono ?_
      rintro r w4 ⟨xv, rfl, hox, hg4⟩
      obtain ⟨yk, yn, yu, ys, ya4, yn4, yc4, ya5, yn5, yc5, rfl⟩ := hox.node6
      have HOX := Lib.hid hox
      have HG4 := Lib.hid hg4
      obtain ⟨vs4, S4, q1, q2, q3, q4⟩ := HWS.out
      obtain ⟨ga, gc, rfl, hz1, hz2, hz3⟩ := HWS.out.form
      have HV4 : Hid (vs4.length ≤ 4096) := by show _ ≤ _; rw [q2.length, List.length_take]; omega
      have HQ1 := Lib.hid q1
      have HQ2 := Lib.hid q2
      have HQ3 := Lib.hid q3
      have HQ4 := Lib.hid q4
      have HON : Hid (∀ o, OwnN (w4.alloc o) w3.heap.size (.slice ga (l.take kk).length gc) vs4) := fun o => (q1.grew hg4).grew ((Grew.refl _).alloc o)
      have HSZ4 : Hid (∀ o, w3.heap.size ≤ (w4.alloc o).heap.size) := fun o => Nat.le_trans (Nat.le_trans (Nat.le_trans HGW.out.size HGR.out.size) hg4.size) ((Grew.refl w4).alloc o).size
      clear q1 q2 q3 q4 hz1 hz2 hz3 hox hg4 HW HWS e0 e1 e2 e3 e4 e5
      generalize l.take kk = L at *
      go_wp2_with (at_builtin; refine wpList_appendN rfl _ _ rfl w3.heap.size _ vs4 rfl (HON.out _) _ _ (.agg #[.int .i64 yk, .int .i64 yn, .int .u64 yu, .string ys, .slice ya4 yn4 yc4, .slice ya5 yn5 yc5]) rfl (heap_alloc_new _ _) ⟨_, _, _, _, _, _, _, _, _, _, rfl⟩ (by have := HV4.out; omega) (HSZ4.out _) ?_; intro v' w5 hown hgr hnx; obtain ⟨va2, vc2, rfl, hz1, hz2, hz3⟩ := rows_form hown.1; have HG5 := Lib.hid (Grow.step (R := fun _ => False) (fun g h => h.elim) vs4 S4 HQ2.out HQ1.out HQ3.out HQ4.out HOX.out (Moved.of_grew HG4.out) _ hown hgr hnx); clear hown hgr hnx hz1 hz2 hz3)
      go_roundw
      case rel =>
        refine ⟨kk + 1, by omega, by go_num, ?_⟩
        show Grow _ _ _ _ _
        rw [← HX.out]
        have hh := HG5.out
        rw [List.length_append] at hh
        exact hh
      case measure => simp [intOf]; omega
    · have ek : kk = l.length := by omega
      subst ek
      have hw := HW.out
      rw [List.take_length] at hw
      have HE := Lib.hid hw
      have hgw := HGW.out
      have hrow := hgw.heap HROW.out
      have hres := hgw.heap HB2'.out
      have HROWW := Lib.hid hrow
      have HRESW := Lib.hid hres
      have f5 := row_frozen hrow 5
      have r0 := row_frozen hres 0
      have r1 := row_frozen hres 1
      have r2 := row_frozen hres 2
      have r3 := row_frozen hres 3
      have r4 := row_frozen hres 4
      have r5 := row_frozen hres 5
      have d0 := row_cellT hrow 0 _ rfl
      have d1 := row_cellT hrow 1 _ rfl
      have d2 := row_cellT hrow 2 _ rfl
      have d3 := row_cellT hrow 3 _ rfl
      have d4 := row_cellT hrow 4 _ rfl
      have d5 := row_cellT hrow 5 _ rfl
      have z0 := row_cellT hres 0 _ rfl
      have z1 := row_cellT hres 1 _ rfl
      have z2 := row_cellT hres 2 _ rfl
      have z3 := row_cellT hres 3 _ rfl
      have z4 := row_cellT hres 4 _ rfl
      have z5 := row_cellT hres 5 _ rfl
      obtain ⟨ga, gc, rfl, hz1, hz2, hz3⟩ := HE.out.form
      clear hw HW hgw hrow hres hz1 hz2 hz3
      have hT := moved_close wr N (N + 1) (.int .i64 k) (.int .i64 n) (.int .u64 u) (.string s) (.slice va keys.length vc) (.slice ga l.length gc) (.slice ga l.length gc)
      have hTW : Grew w (store6 (wr.setCell ⟨N, 5, none⟩ (.slice ga l.length gc)) (N + 1) (.int .i64 k) (.int .i64 n) (.int .u64 u) (.string s) (.slice va keys.length vc) (.slice ga l.length gc)) := Moved.fresh (HG3.out.trans HGW.out) hT (fun q hq => by have h1 := HN.out; rcases hq with rfl | rfl <;> omega)
      have hkvW : OwnS wr (N + 2) (.slice va keys.length vc) keys := HKV.out.grew HGW.out
      have hfin : OwnT (store6 (wr.setCell ⟨N, 5, none⟩ (.slice ga l.length gc)) (N + 1) (.int .i64 k) (.int .i64 n) (.int .u64 u) (.string s) (.slice va keys.length vc) (.slice ga l.length gc)) w.heap.size (.mk k n u s keys l) (.agg #[.int .i64 k, .int .i64 n, .int .u64 u, .string s, .slice va keys.length vc, .slice ga l.length gc]) (Fresh w (store6 (wr.setCell ⟨N, 5, none⟩ (.slice ga l.length gc)) (N + 1) (.int .i64 k) (.int .i64 n) (.int .u64 u) (.string s) (.slice va keys.length vc) (.slice ga l.length gc))) := by
        have h1 := HN.out
        have h3 : N < w3.heap.size := (Array.getElem?_eq_some_iff.1 HROW.out).1
        have h4 : N + 1 < w3.heap.size := (Array.getElem?_eq_some_iff.1 HB2'.out).1
        refine Grow.tree (((HE.out.wider (fun _ h => h.elim)).kept hT (fun q hq => ?_) (fun _ h => h))) ⟨HB.out.1, HB.out.2.1, HB.out.2.2.1, HB.out.2.2.2, hkz.out⟩ HG3.out.size ?_ (fun q hq => (World.ownsRow.lt HKV.out q hq).2)
        · rcases hq with rfl | rfl <;> omega
        · refine rows_base (Moved.owns hT hkvW (fun q hq e => ?_)) (by omega)
          rcases e with rfl | rfl
          · exact not_block hkvW HROWW.out (by decide) hq
          · exact not_block hkvW HRESW.out (by decide) hq
      have HFIN := Lib.hid (And.intro hfin hTW)
      clear hT hTW hfin hkvW
      go_wp2
      refine bodyPost_ret (v := .agg #[.int .i64 k, .int .i64 n, .int .u64 u, .string s, .slice va keys.length vc, .slice ga l.length gc]) (by simp [results, Try.results41, go_sem, z0, z1, z2, z3, z4, z5]) rfl ?_
      exact ⟨_, rfl, HFIN.out.1, HFIN.out.2⟩
end Go.Proofs.Ytlhliolknaopjaa

/-
  Trees: the table of kinds (uses, part).
-/
namespace Go.Proofs.Ytlhliolknaopjaa
open Go Go.ChangeShapes Go.WideShapes Go.ChangeAt Go.RowKit Go.Joins Go.Deep
set_option linter.unusedVariables false
set_option linter.unusedSimpArgs false

/-- The fields that a kind uses: N 1, U 2, S 4, Keys 8. -/
def usesF (k : Int) : Int :=
  if k = 2 ∨ k = 3 ∨ k = 8 then 1 else if k = 4 ∨ k = 9 then 2 else if k = 5 ∨ k = 6 ∨ k = 7 then 4 else if k = 17 then 8 else 0
/-- The children's kind: 0 any, -1 none. -/
def partF (k : Int) : Int :=
  if k = 10 ∨ k = 17 then 0 else if k = 11 ∨ k = 15 then 3 else if k = 12 ∨ k = 16 then 4 else if k = 13 then 5 else if k = 14 then 2 else -1
theorem kinds (k : Int) (h1 : 1 ≤ k) (h2 : k ≤ 17) : k = 1 ∨ k = 2 ∨ k = 3 ∨ k = 4 ∨ k = 5 ∨ k = 6 ∨ k = 7 ∨ k = 8 ∨ k = 9 ∨ k = 10 ∨ k = 11 ∨ k = 12 ∨ k = 13 ∨ k = 14 ∨ k = 15 ∨ k = 16 ∨ k = 17 := by omega
/-- 'a[i]' of an array value whose elements are one cell each. -/
theorem run_index_one {P : Program} (t e : TypeId) (n : Nat) (cs : Array Value) (k : IntKind) (i : Int) (w : World) (h : P.underlying t = some (.array n e))
    (he : (isAgg e).run P w = .ok false w) (hs : (P.info? e).map (·.size) = some 1) (h0 : 0 ≤ i) (h1 : i < n) (v : Value) (hv : cs[i.toNat]? = some v) :
    (Instr.index t (.agg cs) (.int k i)).run P w = .ok v w := by
  have hn : 0 ≤ i ∧ i < (n : Int) := ⟨h0, h1⟩
  cases hq : P.info? e with
  | none => simp [hq] at hs
  | some ie =>
    have hsz : ie.size = 1 := by simpa [hq] using hs
    have hso : (sizeOf e).run P w = .ok 1 w := by simp [sizeOf, typeInfo, hq, hsz]
    unfold Instr.index
    simp [asIntOf, Sem.run_bind, Sem.run_pure, Result.andThen_ok, run_underlying h, hn, hso, part, he, hv]
set_option maxRecDepth 100000 in
theorem uses_any (k : Int) (w : World) (h1 : 1 ≤ k) (h2 : k ≤ 17) : Calls Try.prog 62 #[.int .i64 k] w fun r w' => r = .returned (.int .i64 (usesF k)) ∧ w = w' := by
  have hx : ∀ w', (Instr.index 100 (.agg #[.int .i64 0, .int .i64 0, .int .i64 1, .int .i64 1, .int .i64 2, .int .i64 4, .int .i64 4, .int .i64 4, .int .i64 1, .int .i64 2, .int .i64 0, .int .i64 0, .int .i64 0, .int .i64 0, .int .i64 0, .int .i64 0, .int .i64 0, .int .i64 8]) (.int .i64 k)).run Try.prog w' = .ok (.int .i64 (usesF k)) w' := fun w' =>
    run_index_one (P := Try.prog) 100 3 18 _ .i64 k w' Try.underlying100 (Try.isAgg3 w') (by kernel_rfl) (by omega) (by omega) _ (by
      rcases kinds k h1 h2 with rfl | rfl | rfl | rfl | rfl | rfl | rfl | rfl | rfl | rfl | rfl | rfl | rfl | rfl | rfl | rfl | rfl <;> rfl)
  go_enter Try.func62, Try.ntmps62
  go_wp2
  go_ret
  exact ⟨rfl, rfl⟩
set_option maxRecDepth 100000 in
theorem part_any (k : Int) (w : World) (h1 : 1 ≤ k) (h2 : k ≤ 17) : Calls Try.prog 63 #[.int .i64 k] w fun r w' => r = .returned (.int .i64 (partF k)) ∧ w = w' := by
  have hx : ∀ w', (Instr.index 100 (.agg #[.int .i64 0, .int .i64 (-1), .int .i64 (-1), .int .i64 (-1), .int .i64 (-1), .int .i64 (-1), .int .i64 (-1), .int .i64 (-1), .int .i64 (-1), .int .i64 (-1), .int .i64 0, .int .i64 3, .int .i64 4, .int .i64 5, .int .i64 2, .int .i64 3, .int .i64 4, .int .i64 0]) (.int .i64 k)).run Try.prog w' = .ok (.int .i64 (partF k)) w' := fun w' =>
    run_index_one (P := Try.prog) 100 3 18 _ .i64 k w' Try.underlying100 (Try.isAgg3 w') (by kernel_rfl) (by omega) (by omega) _ (by
      rcases kinds k h1 h2 with rfl | rfl | rfl | rfl | rfl | rfl | rfl | rfl | rfl | rfl | rfl | rfl | rfl | rfl | rfl | rfl | rfl <;> rfl)
  go_enter Try.func63, Try.ntmps63
  go_wp2
  go_ret
  exact ⟨rfl, rfl⟩
end Go.Proofs.Ytlhliolknaopjaa

/-
  Trees: whether a child of another kind is among the children (the closure in such, slices.IndexFunc, slices.ContainsFunc).
-/
namespace Go.Proofs.Ytlhliolknaopjaa
open Go Go.ChangeShapes Go.WideShapes Go.ChangeAt Go.RowKit Go.Joins Go.Deep
set_option linter.unusedVariables false
set_option linter.unusedSimpArgs false

def otherB (p : Int) (x : Tr) : Bool := p != 0 && x.kind != p
theorem kind_cell {w : World} {t : Tr} {k n u : Int} {s : ByteArray} {a4 a5 : Option Addr} {n4 c4 n5 c5 : Nat} (h : NodeAt w t (.agg #[.int .i64 k, .int .i64 n, .int .u64 u, .string s, .slice a4 n4 c4, .slice a5 n5 c5])) : k = t.kind := by
  cases t
  simp only [NodeAt] at h
  obtain ⟨_, kv, lv, vs, e, _⟩ := h
  injection e with e
  injection e with e
  simp at e
  exact e.1
set_option maxRecDepth 100000 in
theorem other_any (p : Int) (bp : Nat) (t : Tr) (v : Value) (w : World) (hn : NodeAt w t v) (hb : w.cell? ⟨bp, 0, none⟩ = some (.int .i64 p)) :
    Calls Try.prog 64 #[v, .pointer (some ⟨bp, 0, none⟩)] w fun r w' => r = .returned (.bool (otherB p t)) ∧ Grew w w' := by
  obtain ⟨k, n, u, s, a4, n4, c4, a5, n5, c5, rfl⟩ := hn.node6
  have HK := Lib.hid (kind_cell hn)
  clear hn
  have hlt : bp < w.heap.size := World.block_lt_of_cell? w _ hb
  have hb2 : ∀ o, (w.alloc o).cell? ⟨bp, 0, none⟩ = some (.int .i64 p) := fun o => ((Grew.refl w).alloc o).cell hb
  by_cases hp : p = 0
  · have hq : (p != 0) = false := by simp [hp]
    have HF : Hid (otherB p t = false) := by show _ = _; simp [otherB, hp]
    clear hp
    go_enter Try.func64, Try.ntmps64
    go_wp2
    go_ret
    exact ⟨by rw [HF.out]; rfl, (Grew.refl w).alloc _⟩
  · have hq : (p != 0) = true := by simp [hp]
    have HF : Hid (otherB p t = (k != p)) := by show _ = _; simp [otherB, hp, HK.out]
    clear hp
    go_enter Try.func64, Try.ntmps64
    go_wp2
    go_ret
    exact ⟨by rw [HF.out]; rfl, (Grew.refl w).alloc _⟩
/-- The first child that is such, or -1. -/
def findF (p : Int) : List Tr → Nat → Int
  | [], _ => -1
  | t :: r, i => if otherB p t then i else findF p r (i + 1)
theorem findF_stop (p : Int) (l : List Tr) (k i : Nat) (x : Tr) (hx : l[k]? = some x) (h : ∀ y ∈ l.take k, otherB p y = false) (ho : otherB p x = true) : findF p l i = ((i + k : Nat) : Int) := by
  induction l generalizing k i with
  | nil => simp at hx
  | cons t r ih =>
    cases k with
    | zero => simp at hx; subst hx; simp [findF, ho]
    | succ k =>
      have h0 : otherB p t = false := h t (by simp)
      rw [findF, h0]
      simp only [Bool.false_eq_true, if_false]
      rw [ih k (i + 1) (by simpa using hx) (fun y hy => h y (by simp [hy]))]
      congr 1; omega
theorem findF_none (p : Int) (l : List Tr) (i : Nat) (h : ∀ y ∈ l, otherB p y = false) : findF p l i = -1 := by
  induction l generalizing i with
  | nil => rfl
  | cons t r ih => rw [findF, h t (by simp)]; simp only [Bool.false_eq_true, if_false]; exact ih (i + 1) (fun y hy => h y (by simp [hy]))
theorem findF_ge (p : Int) (l : List Tr) (i : Nat) : decide (0 ≤ findF p l i) = l.any (otherB p) := by
  induction l generalizing i with
  | nil => rfl
  | cons t r ih =>
    rw [findF, List.any_cons]
    cases h : otherB p t with
    | true => simp
    | false => simpa using ih (i + 1)
set_option maxRecDepth 100000 in
set_option maxHeartbeats 1000000 in
theorem indexfunc_any (p : Int) (bp : Nat) (l : List Tr) (lv : Value) (vs : List Value) (w : World) (hr : RowsAt w lv vs) (hk : KidsAt w l vs) (hb : w.cell? ⟨bp, 0, none⟩ = some (.int .i64 p)) :
    Calls Try.prog 91 #[lv, .func (.func 64) #[] #[.pointer (some ⟨bp, 0, none⟩)]] w fun r w' => r = .returned (.int .i64 (findF p l 0)) ∧ Grew w w' := by
  have HR := Lib.hid hr
  have HK := Lib.hid hk
  have HB := Lib.hid hb
  have hkl := hk.length
  obtain ⟨a, c, rfl, hlc, hc, hz1, hz2⟩ := hr
  unfold lenok at hc
  rw [hkl] at HR hlc ⊢
  have hlen : l.length ≤ 9223372036854775807 := by omega
  clear hz1 hz2 hk hb hkl hlc hc
  go_enter Try.func91, Try.ntmps91
  go_wp2_with fail
  go_loopw [8] (fun i wr => ∃ kk : Nat, kk ≤ l.length ∧ i = .int .i64 kk ∧ Hid ((∀ y ∈ l.take kk, otherB p y = false) ∧ Grew w wr)) (fun i _ => l.length - (intOf i).toNat)
  case atStart => exact ⟨0, Nat.zero_le _, rfl, by show _ ∧ _; exact ⟨by simp, Grew.refl _⟩⟩
  case round =>
    obtain ⟨kk, hkk, rfl, HW⟩ := hrel
    by_cases hlt : kk < l.length
    · obtain ⟨x, hx⟩ : ∃ x, l[kk]? = some x := ⟨_, List.getElem?_eq_getElem hlt⟩
      obtain ⟨xv, hxv, hnx⟩ := HK.out.get hx
      obtain ⟨b, off, rfl, hc6⟩ : ∃ b off, a = some ⟨b, off, none⟩ ∧ Cells6 wr b (off + kk * 6) xv := by
        obtain ⟨a, c, e, _, _, _, h⟩ := HR.out
        injection e with e1 e2 e3
        subst e1
        obtain ⟨b, off, e, h6⟩ := h kk xv hxv
        exact ⟨b, off, e, h6.grew HW.out.2⟩
      obtain ⟨xk, xn, xu, xs, xa4, xn4, xc4, xa5, xn5, xc5, rfl⟩ := hnx.node6
      obtain ⟨e0, e1, e2, e3, e4, e5⟩ := hc6.get
      have HNX := Lib.hid hnx
      have HX := Lib.hid hx
      clear hc6 hx hxv hnx
      have hlti : (kk : Int) < l.length := by omega
      go_wp2_with fail
      refine (other_any p bp x _ _ (HNX.out.grew HW.out.2) (HW.out.2.cell HB.out)).mono ?_
      cases ho : otherB p x with
      | false =>
        have HO := Lib.hid ho
        clear ho
        rintro r w3 ⟨rfl, hg⟩
        have HG := Lib.hid (HW.out.2.trans hg)
        clear hg
        go_wp2_with fail
        go_roundw
        case rel =>
          refine ⟨kk + 1, by omega, by go_num, ?_⟩
          show _ ∧ _
          refine ⟨fun y hy => ?_, HG.out⟩
          rw [List.take_add_one, HX.out] at hy
          rcases List.mem_append.1 hy with hy | hy
          · exact HW.out.1 y hy
          · simp at hy; subst hy; exact HO.out
        case measure => simp [intOf]; omega
      | true =>
        have HF : Hid (findF p l 0 = (kk : Int)) := by show _ = _; rw [findF_stop p l kk 0 x HX.out HW.out.1 ho, Nat.zero_add]
        clear ho
        rintro r w3 ⟨rfl, hg⟩
        have HG := Lib.hid (HW.out.2.trans hg)
        clear hg
        go_wp2_with fail
        go_ret
        exact ⟨by rw [HF.out]; rfl, HG.out⟩
    · have ek : kk = l.length := by omega
      subst ek
      have HF : Hid (findF p l 0 = -1) := findF_none p l 0 (by have h := HW.out.1; rwa [List.take_length] at h)
      go_wp2
      go_ret
      exact ⟨by rw [HF.out]; rfl, HW.out.2⟩
set_option maxRecDepth 100000 in
theorem contains_any (p : Int) (bp : Nat) (l : List Tr) (lv : Value) (vs : List Value) (w : World) (hr : RowsAt w lv vs) (hk : KidsAt w l vs) (hb : w.cell? ⟨bp, 0, none⟩ = some (.int .i64 p)) :
    Calls Try.prog 65 #[lv, .func (.func 64) #[] #[.pointer (some ⟨bp, 0, none⟩)]] w fun r w' => r = .returned (.bool (l.any (otherB p))) ∧ Grew w w' := by
  have hcall := indexfunc_any p bp l lv vs w hr hk hb
  obtain ⟨a, c, rfl, hx⟩ := hr
  have hf := findF_ge p l 0
  generalize findF p l 0 = q at *
  have HF := Lib.hid hf
  have HC := Lib.hid hcall
  clear hcall hx hf hk hb
  go_enter Try.func65, Try.ntmps65
  go_wp2_with fail
  refine HC.out.mono ?_
  rintro r w3 ⟨rfl, hg⟩
  have HG := Lib.hid hg
  clear hg
  go_wp2
  go_ret
  exact ⟨by rw [← HF.out]; rfl, HG.out⟩
end Go.Proofs.Ytlhliolknaopjaa
