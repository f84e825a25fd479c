/-
  Texts of the proof, part 7 of 9.
-/
import Derived.Test.YtlhliolknaopjaaPF
import Derived.Test.YtlhliolknaopjaaPE
import Derived.Test.YtlhliolknaopjaaPC
import Derived.Deep.CutBlock
import Derived.Deep.DeepCutAuto

/-
  Keys: Sorted, and the small functions of the examples. Conditions: the arguments can be read.
-/
namespace Go.Proofs.Ytlhliolknaopjaa
open Go Go.ChangeShapes Go.WideShapes Go.ChangeAt Go.RowKit Go.Joins Go.Deep
set_option linter.unusedVariables false
set_option linter.unusedSimpArgs false

/-- A tree's node, read. -/
def Nd (t : Tr) (v : Value) (w : World) : Prop := NodeAt w t v
theorem Nd.st (t : Tr) : ∀ v w w', Grew w w' → Nd t v w → Nd t v w' := fun _ _ _ hg h => NodeAt.grew hg h
def Ss (l : List ByteArray) (v : Value) (w : World) : Prop := StrsAt w v l
theorem Ss.st (l : List ByteArray) : ∀ v w w', Grew w w' → Ss l v w → Ss l v w' := fun _ _ _ hg h => StrsAt.grew h hg
def Rn (ts : List Tr) (v : Value) (w : World) : Prop := ∃ vs, RowsAt w v vs ∧ KidsAt w ts vs
theorem Rn.st (ts : List Tr) : ∀ v w w', Grew w w' → Rn ts v w → Rn ts v w' := fun _ _ _ hg ⟨vs, h, k⟩ => ⟨vs, h.grew hg, k.grew hg⟩
def Ri (l : List Int) (v : Value) (w : World) : Prop := RowI w v l
theorem RowI.grew {w w' : World} {v : Value} {l : List Int} (h : RowI w v l) (hg : Grew w w') : RowI w' v l := by
  obtain ⟨a, c, h1, h2, h3, h4, h5⟩ := h
  refine ⟨a, c, h1, h2, h3, h4, fun i x hx => ?_⟩
  obtain ⟨_, b, off, e, hc⟩ := h5 i x hx
  exact ⟨trivial, b, off, e, hg.cell hc⟩
theorem Ri.st (l : List Int) : ∀ v w w', Grew w w' → Ri l v w → Ri l v w' := fun _ _ _ hg h => RowI.grew h hg
theorem StrsAt.form {w : World} {v : Value} {l : List ByteArray} (h : StrsAt w v l) : ∃ a c, v = .slice a l.length c := by
  obtain ⟨a, c, e, _⟩ := h; exact ⟨a, c, e⟩
theorem RowsAt.form {w : World} {v : Value} {vs : List Value} (h : RowsAt w v vs) : ∃ a c, v = .slice a vs.length c := by
  obtain ⟨a, c, e, _⟩ := h; exact ⟨a, c, e⟩
theorem StrsAt.nil (w : World) : StrsAt w (.slice none 0 0) [] := ⟨none, 0, rfl, by simp, by unfold lenok; omega, fun _ => rfl, by simp⟩
theorem RowsAt.nil (w : World) : RowsAt w (.slice none 0 0) [] := ⟨none, 0, rfl, by simp, by unfold lenok; omega, fun _ => rfl, by simp⟩
theorem RowI.nil (w : World) : RowI w (.slice none 0 0) [] := ⟨none, 0, rfl, by simp, by unfold lenok; omega, fun _ => rfl, by simp⟩
theorem built_strs (w : World) (l : List ByteArray) (hz : ∀ s ∈ l, lenok s.size) (hl : l.length ≤ 4096) : Ss l (.slice (some ⟨w.heap.size, 0, none⟩) l.length l.length) (w.alloc (.cells (l.map Value.string).toArray 9)) := by
  refine ⟨some ⟨w.heap.size, 0, none⟩, l.length, rfl, Nat.le_refl _, by unfold lenok; omega, fun h => (by cases h), fun i s hs => ⟨hz s (List.mem_of_getElem? hs), w.heap.size, 0, rfl, ?_⟩⟩
  rw [cell_of_row _ _ _ _ _ _ (heap_alloc_new _ _)]
  simp [hs]
theorem built_ints (w : World) (l : List Int) (hl : l.length ≤ 4096) : Ri l (.slice (some ⟨w.heap.size, 0, none⟩) l.length l.length) (w.alloc (.cells (l.map (Value.int .i64)).toArray 3)) := by
  refine ⟨some ⟨w.heap.size, 0, none⟩, l.length, rfl, Nat.le_refl _, by unfold lenok; omega, fun h => (by cases h), fun i s hs => ⟨trivial, w.heap.size, 0, rfl, ?_⟩⟩
  rw [cell_of_row _ _ _ _ _ _ (heap_alloc_new _ _)]
  simp [hs]
theorem built_nodes (w : World) (ts : List Tr) (vs : List Value) (h6 : ∀ x ∈ vs, Node6 x) (hk : KidsAt w ts vs) (hl : vs.length ≤ 4096) : Rn ts (.slice (some ⟨w.heap.size, 0, none⟩) vs.length vs.length) (w.alloc (.cells (vs.flatMap cells6).toArray 27)) := by
  refine ⟨vs, ⟨some ⟨w.heap.size, 0, none⟩, vs.length, rfl, Nat.le_refl _, by unfold lenok; omega, fun h => (by cases h), fun i x hx => ⟨w.heap.size, 0, rfl, ?_⟩⟩, hk.grew ((Grew.refl _).alloc _)⟩
  have hr : ∀ o, (w.alloc (.cells (vs.flatMap cells6).toArray 27)).cell? ⟨w.heap.size, o, none⟩ = (vs.flatMap cells6)[o]? := fun o => by
    rw [cell_of_row _ _ _ _ _ _ (heap_alloc_new _ _)]; simp
  obtain ⟨k, n, u, s, a4, n4, c4, a5, n5, c5, rfl⟩ := h6 x (List.mem_of_getElem? hx)
  refine ⟨_, _, _, _, _, _, rfl, ?_, ?_, ?_, ?_, ?_, ?_⟩ <;> rw [hr, Nat.zero_add]
  · exact flat6_get h6 hx 0 (by decide)
  · exact flat6_get h6 hx 1 (by decide)
  · exact flat6_get h6 hx 2 (by decide)
  · exact flat6_get h6 hx 3 (by decide)
  · exact flat6_get h6 hx 4 (by decide)
  · exact flat6_get h6 hx 5 (by decide)
theorem table_nd {keys : List ByteArray} {l : List Tr} {kv lv : Value} {w : World} (h : Ss keys kv w) (h2 : Rn l lv w) : Nd (.mk 17 0 0 ⟨#[]⟩ keys l) (.agg #[.int .i64 17, .int .i64 0, .int .u64 0, .string ⟨#[]⟩, kv, lv]) w := by
  obtain ⟨vs, h3, h4⟩ := h2
  exact ⟨⟨by unfold i64ok; omega, by unfold i64ok; omega, by unfold u64ok; omega, by unfold lenok; decide⟩, kv, lv, vs, rfl, h, h3, h4⟩
theorem num_nd (n : Int) (hn : i64ok n) (w : World) : Nd (.mk 3 n 0 ⟨#[]⟩ [] []) (.agg #[.int .i64 3, .int .i64 n, .int .u64 0, .string ⟨#[]⟩, .slice none 0 0, .slice none 0 0]) w :=
  ⟨⟨by unfold i64ok; omega, hn, by unfold u64ok; omega, by unfold lenok; decide⟩, _, _, [], rfl, StrsAt.nil w, RowsAt.nil w, by simp [KidsAt]⟩
theorem vec_nd {l : List Tr} {lv : Value} {w : World} (h2 : Rn l lv w) : Nd (.mk 10 0 0 ⟨#[]⟩ [] l) (.agg #[.int .i64 10, .int .i64 0, .int .u64 0, .string ⟨#[]⟩, .slice none 0 0, lv]) w := by
  obtain ⟨vs, h3, h4⟩ := h2
  exact ⟨⟨by unfold i64ok; omega, by unfold i64ok; omega, by unfold u64ok; omega, by unfold lenok; decide⟩, _, lv, vs, rfl, StrsAt.nil w, h3, h4⟩
/-- What Order answers, plain. -/
def ordK (l : List ByteArray) : List Int × Int := if l.Nodup then ((sortP (l.zip (List.range l.length))).map (fun p => (p.2 : Int)), 0) else ([], 71)
theorem order_ord {w w' : World} {l : List ByteArray} {r : Ending} (hl : l.length ≤ 4096) (h : OrderOut w l r w') : Grew w w' ∧ ∃ v, r = .returned (.tuple #[v, .int .i64 (ordK l).2]) ∧ RowI w' v (ordK l).1 := by
  obtain ⟨hg, ⟨hn, rfl⟩ | ⟨hn, v, rfl, blk, cap, p, rfl, hp, hs, hc, rfl⟩⟩ := h
  · have e : ordK l = ([], 71) := by unfold ordK; rw [if_neg hn]
    rw [e]
    exact ⟨hg, _, rfl, RowI.nil _⟩
  · have e : ordK l = ((sortP (l.zip (List.range l.length))).map (fun p => (p.2 : Int)), 0) := by unfold ordK; rw [if_pos hn]
    have h1 := perm_sortP (l := List.range l.length) (by simp) hp hs (⟨#[]⟩, 0)
    have h2 : (sortP (l.zip (List.range l.length))).map (fun p => (p.2 : Int)) = p.map fun x => ((x.1 : Nat) : Int) := by
      rw [← h1, List.map_map]
      refine List.map_congr_left fun x hx => ?_
      simp [List.getD_eq_getElem?_getD, x.2]
    rw [e, h2]
    refine ⟨hg, _, rfl, some ⟨blk, 0, none⟩, l.length, by simp [perm_len hp], by simp [perm_len hp], by unfold lenok; omega, fun h => (by cases h), fun i x hx => ?_⟩
    · rw [List.getElem?_map] at hx
      cases hq : p[i]? with
      | none => rw [hq] at hx; cases hx
      | some q =>
        rw [hq] at hx
        cases hx
        exact ⟨trivial, blk, 0, rfl, by rw [Nat.zero_add]; exact hc i q hq⟩
/-- What Sorted hands back. -/
def SortedOut (w : World) (t : Tr) (r : Ending) (w' : World) : Prop :=
  Grew w w' ∧ ((checkE t ≠ 0 ∧ r = .returned (.tuple #[zeroNode, .int .i64 (checkE t)])) ∨ (checkE t = 0 ∧ ∃ v S, r = .returned (.tuple #[v, .int .i64 0]) ∧ OwnT w' w.heap.size (sortT t) v S ∧ ∀ g, S g → Fresh w w' g))
set_option maxRecDepth 100000 in
theorem sorted_any (t : Tr) (v : Value) (w : World) (hn : NodeAt w t v) (hsz : t.size ≤ 1099511627776) : Calls Try.prog 20 #[v] w fun r w' => SortedOut w t r w' := by
  have HC := Lib.hid hn
  obtain ⟨k, n, u, s, a4, n4, c4, a5, n5, c5, rfl⟩ := hn.node6
  obtain ⟨N, hN⟩ : ∃ N, w.heap.size = N := ⟨_, rfl⟩
  go_enter Try.func20, Try.ntmps20
  go_wp2_with fail
  have hb1 := heap_alloc_new w (.cells #[.int .i64 k, .int .i64 n, .int .u64 u, .string s, .slice a4 n4 c4, .slice a5 n5 c5] 27)
  have hg1 := (Grew.refl w).alloc (.cells #[.int .i64 k, .int .i64 n, .int .u64 u, .string s, .slice a4 n4 c4, .slice a5 n5 c5] 27)
  have hs1 : (w.alloc (.cells #[.int .i64 k, .int .i64 n, .int .u64 u, .string s, .slice a4 n4 c4, .slice a5 n5 c5] 27)).heap.size = w.heap.size + 1 := World.size_alloc _ _
  generalize (w.alloc (.cells #[.int .i64 k, .int .i64 n, .int .u64 u, .string s, .slice a4 n4 c4, .slice a5 n5 c5] 27)) = w1 at *
  have hb2 := heap_alloc_new w1 (.cells #[.int .i64 0, .int .i64 0, .int .u64 0, .string ⟨#[]⟩, .slice none 0 0, .slice none 0 0] 27)
  have hg2 := (Grew.refl w1).alloc (.cells #[.int .i64 0, .int .i64 0, .int .u64 0, .string ⟨#[]⟩, .slice none 0 0, .slice none 0 0] 27)
  rw [hs1, hN] at hb2
  generalize (w1.alloc (.cells #[.int .i64 0, .int .i64 0, .int .u64 0, .string ⟨#[]⟩, .slice none 0 0, .slice none 0 0] 27)) = w2 at *
  rw [hN] at hb1
  replace hb1 := hg2.heap hb1
  have hG := hg1.trans hg2
  have HN := Lib.hid hN
  clear hs1 hg1 hg2 hn hN
  refine (check_any t _ _ (HC.out.grew hG) hsz).mono ?_
  rintro r w3 ⟨rfl, hg3⟩
  replace hG := hG.trans hg3
  replace hb1 := hg3.heap hb1
  replace hb2 := hg3.heap hb2
  clear hg3
  have HG := Lib.hid hG
  have HB := Lib.hid (And.intro hb1 hb2)
  clear hG
  have d0 := row_cellT hb1 0 _ rfl
  have d1 := row_cellT hb1 1 _ rfl
  have d2 := row_cellT hb1 2 _ rfl
  have d3 := row_cellT hb1 3 _ rfl
  have d4 := row_cellT hb1 4 _ rfl
  have d5 := row_cellT hb1 5 _ rfl
  have z0 := row_cellT hb2 0 _ rfl
  have z1 := row_cellT hb2 1 _ rfl
  have z2 := row_cellT hb2 2 _ rfl
  have z3 := row_cellT hb2 3 _ rfl
  have z4 := row_cellT hb2 4 _ rfl
  have z5 := row_cellT hb2 5 _ rfl
  have f0 := row_frozen hb2 0
  have f1 := row_frozen hb2 1
  have f2 := row_frozen hb2 2
  have f3 := row_frozen hb2 3
  have f4 := row_frozen hb2 4
  have f5 := row_frozen hb2 5
  clear hb1 hb2
  obtain ⟨e, he⟩ : ∃ e, checkE t = e := ⟨_, rfl⟩
  have HE := Lib.hid he
  rw [he]
  by_cases h0 : e = 0
  · subst h0
    have hok := okT_check he
    have HOK := Lib.hid hok
    clear he hok
    go_wp2_with fail
    refine (treecopy_any t.size t (Nat.le_refl _) _ _ (HC.out.grew HG.out) (okT_few HOK.out.1)).mono ?_
    rintro r w4 ⟨v4, rfl, ho4, hg4⟩
    have HO4 := Lib.hid ho4
    have HG4 := Lib.hid hg4
    obtain ⟨k', n', u', s', a4', n4', c4', a5', n5', c5', rfl⟩ := ho4.node6
    clear ho4 hg4 z0 z1 z2 z3 z4 z5 f0 f1 f2 f3 f4 f5
    go_wp2_with fail
    refine (ksorted_any t.size t (Nat.le_refl _) HOK.out.1 _ w4 w3.heap.size _ HO4.out HG4.out.size (fun g hg => hg.2)).mono ?_
    rintro r w5 ⟨v5, S5, rfl, ho5, hm5, hz5, hf5⟩
    have hg5 : Grew w3 w5 := Moved.fresh HG4.out hm5 (fun g hg => hg.1)
    obtain ⟨k5, n5', u5, s5, a45, n45, c45, a55, n55, c55, rfl⟩ := ho5.node6
    have hb1 := hg5.heap HB.out.1
    have hb2 := hg5.heap HB.out.2
    have z0 := row_cellT hb2 0 _ rfl
    have z1 := row_cellT hb2 1 _ rfl
    have z2 := row_cellT hb2 2 _ rfl
    have z3 := row_cellT hb2 3 _ rfl
    have z4 := row_cellT hb2 4 _ rfl
    have z5 := row_cellT hb2 5 _ rfl
    have f0 := row_frozen hb2 0
    have f1 := row_frozen hb2 1
    have f2 := row_frozen hb2 2
    have f3 := row_frozen hb2 3
    have f4 := row_frozen hb2 4
    have f5 := row_frozen hb2 5
    have HFIN : Hid (SortedOut w t (.returned (.tuple #[.agg #[.int .i64 k5, .int .i64 n5', .int .u64 u5, .string s5, .slice a45 n45 c45, .slice a55 n55 c55], .int .i64 0])) (store6 w5 (N + 1) (.int .i64 k5) (.int .i64 n5') (.int .u64 u5) (.string s5) (.slice a45 n45 c45) (.slice a55 n55 c55))) := by
      have hN := HN.out
      have h3 : N + 1 < w3.heap.size := (Array.getElem?_eq_some_iff.1 HB.out.2).1
      have h4 := HG4.out.size
      have hT : Moved (fun k => k = N + 1) w5 (store6 w5 (N + 1) (.int .i64 k5) (.int .i64 n5') (.int .u64 u5) (.string s5) (.slice a45 n45 c45) (.slice a55 n55 c55)) := moved_store6 w5 (N + 1) (.int .i64 k5) (.int .i64 n5') (.int .u64 u5) (.string s5) (.slice a45 n45 c45) (.slice a55 n55 c55)
      have hsz := hT.size
      refine ⟨Moved.fresh (HG.out.trans hg5) hT (fun g e => by omega), .inr ⟨HE.out, _, S5, rfl, (ho5.kept hT (fun g hg e => ?_)).base HG.out.size, fun g hg => ?_⟩⟩
      · rcases hf5 g hg with h | h
        · have := h.1; omega
        · have := h.1; omega
      · have h6 := HG.out.size
        rcases hf5 g hg with h | h
        · exact ⟨by have := h.1; omega, by have := h.2; omega⟩
        · exact ⟨by have := h.1; omega, by have := h.2; omega⟩
    clear hb1 hb2 ho5 hm5 hz5 hf5 hg5
    go_wp2_with fail
    refine bodyPost_ret (v := .tuple #[.agg #[.int .i64 k5, .int .i64 n5', .int .u64 u5, .string s5, .slice a45 n45 c45, .slice a55 n55 c55], .int .i64 0]) (by simp [results, Try.results20, go_sem, z0, z1, z2, z3, z4, z5]) rfl ?_
    exact HFIN.out
  · have hb : (e == 0) = false := by simpa using h0
    have H0 := Lib.hid h0
    clear he h0
    have HFIN : Hid (SortedOut w t (.returned (.tuple #[.agg #[.int .i64 0, .int .i64 0, .int .u64 0, .string ⟨#[]⟩, .slice none 0 0, .slice none 0 0], .int .i64 e])) (store6 w3 (N + 1) (.int .i64 0) (.int .i64 0) (.int .u64 0) (.string ⟨#[]⟩) (.slice none 0 0) (.slice none 0 0))) := by
      have hN := HN.out
      have hT := moved_store6 w3 (N + 1) (.int .i64 0) (.int .i64 0) (.int .u64 0) (.string ⟨#[]⟩) (.slice none 0 0) (.slice none 0 0)
      exact ⟨Moved.fresh HG.out hT (fun g e => by omega), .inl ⟨by rw [HE.out]; exact H0.out, by rw [HE.out]; rfl⟩⟩
    go_wp2_with fail
    refine bodyPost_ret (v := .tuple #[.agg #[.int .i64 0, .int .i64 0, .int .u64 0, .string ⟨#[]⟩, .slice none 0 0, .slice none 0 0], .int .i64 e]) (by simp [results, Try.results20, go_sem, z0, z1, z2, z3, z4, z5]) rfl ?_
    exact HFIN.out
end Go.Proofs.Ytlhliolknaopjaa

/-
  Trees whose memory is no struct variable that still stands at its zero. Conditions: the children's kinds are not 0.
-/
namespace Go.Proofs.Ytlhliolknaopjaa
open Go Go.ChangeShapes Go.WideShapes Go.ChangeAt Go.RowKit Go.Joins Go.Deep
set_option linter.unusedVariables false
set_option linter.unusedSimpArgs false

/-- A node variable at its zero. -/
abbrev ZN : Obj := .cells #[.int .i64 0, .int .i64 0, .int .u64 0, .string ⟨#[]⟩, .slice none 0 0, .slice none 0 0] 27 (0, 0)
/-- All but variables at their zero is as it was. -/
def SameZ (w w' : World) : Prop := ∀ (k : Nat) (o : Obj), w.heap[k]? = some o → o ≠ ZN → w'.heap[k]? = some o
theorem SameZ.refl (w : World) : SameZ w w := fun _ _ h _ => h
theorem SameZ.of_grew {w w' : World} (h : Grew w w') : SameZ w w' := fun _ _ hk _ => h.heap hk
theorem SameZ.trans {a b c : World} (h : SameZ a b) (k : SameZ b c) : SameZ a c := fun i o hi ho => k i o (h i o hi ho) ho
theorem SameZ.told {w w' : World} {g : Nat} (hg : w.heap[g]? = some ZN) (hm : Moved (fun k => k = g) w w') : SameZ w w' := fun k o hk ho => hm.heap hk (fun e => by subst e; rw [hg] at hk; cases hk; exact ho rfl)
mutual
def nzT : Tr → Prop | .mk _ _ _ _ _ l => nzL l
def nzL : List Tr → Prop | [] => True | t :: r => t.kind ≠ 0 ∧ nzT t ∧ nzL r
end
theorem nzL_iff {l : List Tr} : nzL l ↔ ∀ x ∈ l, x.kind ≠ 0 ∧ nzT x := by
  induction l with
  | nil => simp [nzL]
  | cons t r ih => simp [nzL, ih, and_assoc]
theorem nzT_iff {t : Tr} : nzT t ↔ nzL t.kids := by cases t; simp [nzT, Tr.kids]
theorem rowS_same {w w' : World} {B size n : Nat} {e : TypeId} {v : Value} {xs : List Value} (h : w.ownsRow B e size v n xs) (hs : SameZ w w') (hz : ∀ g cap cur, v = .slice (some ⟨g, 0, none⟩) n cap → w.heap[g]? = some (.cells cur e (0, 0)) → Obj.cells cur e (0, 0) ≠ ZN) : w'.ownsRow B e size v n xs := by
  refine ⟨h.1, ?_⟩
  rcases h.2 with h2 | ⟨g, cap, cur, h1, hB, h2, h3⟩
  · exact .inl h2
  · exact .inr ⟨g, cap, cur, h1, hB, hs g _ h2 (hz g cap cur h1 h2), h3⟩
theorem kind_cell0 {w : World} {t : Tr} {v c0 c1 c2 c3 c4 c5 : Value} (h : NodeAt w t v) (e : v = .agg #[c0, c1, c2, c3, c4, c5]) : c0 = .int .i64 t.kind := by
  cases t
  simp only [NodeAt] at h
  obtain ⟨_, kv, lv, vs, e', _⟩ := h
  rw [e] at e'
  injection e' with e'
  simp only [Array.mk.injEq, List.cons.injEq] at e'
  exact e'.1
mutual
theorem OwnT.sameZ {w w' : World} {B : Nat} (hs : SameZ w w') : ∀ {t : Tr} {v : Value} {S : Nat → Prop}, OwnT w B t v S → nzT t → NodeAt w' t v
  | .mk k n u s keys l, v, S, ⟨hb, kv, lv, vs, S', e, h1, h2, _, _, _, _, h7⟩, hz => by
    refine ⟨⟨hb.1, hb.2.1, hb.2.2.1, hb.2.2.2.1⟩, kv, lv, vs, e, ?_, ?_, KidsO.sameZ hs h7 (by simpa [nzT] using hz)⟩
    · have h1' : OwnS w' B kv keys := rowS_same h1 hs (fun g cap cur _ _ h => by injection h with _ h; revert h; decide)
      exact h1'.strs hb.2.2.2.2
    · cases hvs : vs with
      | nil =>
        subst hvs
        obtain ⟨a, c, e1, h3, h4, h5⟩ := rows_form h2.1
        exact ⟨a, c, e1, h3, h4, h5, by simp⟩
      | cons x r =>
        rw [← hvs]
        have h2' : OwnN w' B lv vs := by
          refine ⟨rowS_same h2.1 hs (fun g cap cur hv hg h => ?_), h2.2⟩
          cases l with
          | nil => have := h7.length; rw [hvs] at this; simp at this
          | cons t0 l0 =>
            have hk0 : t0.kind ≠ 0 := by simp only [nzT, nzL] at hz; exact hz.1
            simp only [KidsO] at h7
            obtain ⟨v0, vr, S1, S2, e0, _, _, _, ho, _⟩ := h7
            rw [e0] at h2 hv
            have hc := (h2.rows)
            obtain ⟨a, c, e1, _, _, _, hrow⟩ := hc
            obtain ⟨b, off, e2, h6⟩ := hrow 0 v0 rfl
            rw [hv] at e1
            injection e1 with e1 _ _
            rw [e2] at e1
            injection e1 with e1
            injection e1 with e1 e3 _
            subst e1; subst e3
            obtain ⟨c0, _, _, _, _, _, ev, hc0, _⟩ := h6
            have hk := kind_cell0 ho.node ev
            rw [show (0 : Nat) + 0 * 6 = 0 from rfl] at hc0
            rw [cell_of_row _ _ _ _ _ _ hg] at hc0
            injection h with h _
            rw [h] at hc0
            simp at hc0
            rw [hk] at hc0
            injection hc0 with _ hc0
            exact hk0 hc0.symm
        exact h2'.rows
theorem KidsO.sameZ {w w' : World} {B : Nat} (hs : SameZ w w') : ∀ {l : List Tr} {vs : List Value} {S : Nat → Prop}, KidsO w B l vs S → nzL l → KidsAt w' l vs
  | [], _, _, h, _ => h
  | t :: r, _, S, ⟨v, vr, S1, S2, e, _, _, _, h4, h5⟩, hz => ⟨v, vr, e, OwnT.sameZ hs h4 (by simp only [nzL] at hz; exact hz.2.1), KidsO.sameZ hs h5 (by simp only [nzL] at hz; exact hz.2.2)⟩
end
/-- A tree that stays whatever is told to variables at their zero. -/
def NdZ (t : Tr) (v : Value) (w : World) : Prop := ∀ w', SameZ w w' → NodeAt w' t v
theorem NdZ.nd {t : Tr} {v : Value} {w : World} (h : NdZ t v w) : NodeAt w t v := h w (SameZ.refl w)
theorem NdZ.same {t : Tr} {v : Value} {w w' : World} (h : NdZ t v w) (hs : SameZ w w') : NdZ t v w' := fun w2 h2 => h w2 (hs.trans h2)
theorem NdZ.st (t : Tr) : ∀ v w w', Grew w w' → NdZ t v w → NdZ t v w' := fun _ _ _ hg h => h.same (SameZ.of_grew hg)
theorem OwnT.ndZ {w : World} {B : Nat} {t : Tr} {v : Value} {S : Nat → Prop} (h : OwnT w B t v S) (hz : nzT t) : NdZ t v w := fun _ hs => h.sameZ hs hz
theorem such_kind {t : Tr} (h : suchB t = true) : 1 ≤ t.kind ∧ t.kind ≤ 17 := by
  cases t
  simp only [suchB, Bool.and_eq_true, decide_eq_true_eq] at h
  exact h.1.1.1.1.1.1.1.1
theorem nz_pre : ∀ (m : Nat) (t : Tr) (b : Nat), t.size ≤ m → (∀ p ∈ preT b t, p.2.kind ≠ 0) → nzT t := by
  intro m
  induction m with
  | zero => intro t b h; have := t.size_pos; omega
  | succ m ih =>
    intro t b h hp
    obtain ⟨k, n, u, s, keys, l⟩ := t
    simp only [nzT]
    rw [nzL_iff]
    simp only [preT] at hp
    intro x hx
    have hsub : ∀ p ∈ preT (b + 1) x, p ∈ preL (b + 1) l := by
      clear hp h
      induction l with
      | nil => cases hx
      | cons t r ih =>
        intro p hp
        simp only [preL, List.mem_append]
        rcases List.mem_cons.1 hx with rfl | hx
        · exact .inl hp
        · exact .inr (ih hx p hp)
    refine ⟨?_, ih x (b + 1) (by have := size_mem hx; simp only [Tr.size] at h; omega) (fun p hp' => hp p (List.mem_cons_of_mem _ (hsub p hp')))⟩
    have := hp (b + 1, x) (List.mem_cons_of_mem _ (hsub _ (by cases x; simp [preT])))
    exact this
theorem nz_check {t : Tr} (h : checkE t = 0) : nzT t := by
  obtain ⟨_, h2⟩ := checkL_zero _ 0 h
  refine nz_pre t.size t 0 (Nat.le_refl _) fun p hp => ?_
  have := such_kind (h2 p hp).2.1
  omega
theorem sortT_kind (t : Tr) : (sortT t).kind = t.kind := by
  cases t
  simp only [sortT]
  split <;> rfl
theorem nz_sort : ∀ (m : Nat) (t : Tr), t.size ≤ m → nzT t → nzT (sortT t) := by
  intro m
  induction m with
  | zero => intro t h; have := t.size_pos; omega
  | succ m ih =>
    intro t h hz
    obtain ⟨k, n, u, s, keys, l⟩ := t
    simp only [nzT, nzL_iff] at hz
    have hl : ∀ x ∈ sortL l, x.kind ≠ 0 ∧ nzT x := by
      intro x hx
      rw [sortL_map] at hx
      obtain ⟨y, hy, rfl⟩ := List.mem_map.1 hx
      exact ⟨by rw [sortT_kind]; exact (hz y hy).1, ih y (by have := size_mem hy; simp only [Tr.size] at h; omega) (hz y hy).2⟩
    simp only [sortT]
    split
    · simp only [nzT, nzL_iff]
      intro x hx
      obtain ⟨p, hp, rfl⟩ := List.mem_map.1 hx
      have := (sortP_perm _).mem_iff.1 hp
      exact hl _ (List.of_mem_zip this).2
    · simp only [nzT, nzL_iff]
      exact hl
theorem sorted_ndZ {w w' : World} {t : Tr} {r : Ending} (h : SortedOut w t r w') (h0 : checkE t = 0) : Grew w w' ∧ ∃ v, r = .returned (.tuple #[v, .int .i64 0]) ∧ NdZ (sortT t) v w' := by
  obtain ⟨hg, ⟨h1, _⟩ | ⟨_, v, S, rfl, ho, _⟩⟩ := h
  · exact absurd h0 h1
  · exact ⟨hg, v, rfl, ho.ndZ (nz_sort t.size t (Nat.le_refl _) (nz_check h0))⟩
/-- What the write of a node variable does. -/
def ToldN (va vb : Value) (wg w : World) : Prop :=
  ∃ g c0 c1 c2 c3 c4 c5, va = .pointer (some ⟨g, 0, none⟩) ∧ vb = .agg #[c0, c1, c2, c3, c4, c5] ∧ w = store6 wg g c0 c1 c2 c3 c4 c5
/-- A node variable made behind w0, at its zero. -/
def NewN (w0 : World) (v : Value) (w : World) : Prop := ∃ g, v = .pointer (some ⟨g, 0, none⟩) ∧ w0.heap.size ≤ g ∧ w.heap[g]? = some ZN
theorem NewN.st (w0 : World) : ∀ v w w', Grew w w' → NewN w0 v w → NewN w0 v w' := fun _ _ _ hg ⟨g, e, h1, h2⟩ => ⟨g, e, h1, hg.heap h2⟩
/-- A node variable that holds a value. -/
def VarN (w0 : World) (va vb : Value) (w : World) : Prop := ∃ g c0 c1 c2 c3 c4 c5, va = .pointer (some ⟨g, 0, none⟩) ∧ w0.heap.size ≤ g ∧ vb = .agg #[c0, c1, c2, c3, c4, c5] ∧ w.heap[g]? = some (.cells #[c0, c1, c2, c3, c4, c5] 27 (0, 0))
theorem told_var {w0 wg w : World} {va vb : Value} (h : ToldN va vb wg w) (hn : NewN w0 va wg) (hg : Grew w0 wg) : Grew w0 w ∧ SameZ wg w ∧ VarN w0 va vb w := by
  obtain ⟨g, c0, c1, c2, c3, c4, c5, rfl, rfl, rfl⟩ := h
  obtain ⟨g', e, h1, h2⟩ := hn
  cases e
  have hm : Moved (fun k => k = g) wg (store6 wg g c0 c1 c2 c3 c4 c5) := moved_store6 wg g c0 c1 c2 c3 c4 c5
  exact ⟨Moved.fresh hg hm (fun k e => by omega), SameZ.told h2 hm, g, c0, c1, c2, c3, c4, c5, rfl, h1, rfl, heap_store6 h2 _ _ _ _ _ _⟩
end Go.Proofs.Ytlhliolknaopjaa

/-
  Denote: list, where says and keys are given. Conditions: the bytes, the tree lie in memory; the tree is small.
-/
namespace Go.Proofs.Ytlhliolknaopjaa
open Go Go.ChangeShapes Go.WideShapes Go.ChangeAt Go.RowKit Go.Joins Go.Deep
set_option linter.unusedVariables false
set_option linter.unusedSimpArgs false

def SaysOn (d : List UInt8) (typ : Int) (t : Tr) : Prop := ∀ (dv : Value) (pos par wid lim : Int) (tv : Value) (w : World), DocAt w dv d → NodeAt w t tv → i64ok pos →
    Calls Try.prog 33 #[dv, .agg #[.int .i64 pos, .int .i64 par, .int .i64 typ, .int .i64 wid], .int .i64 lim, tv] w fun r w' => r = .returned (.bool (saysF d typ pos par wid lim t)) ∧ Grew w w'
def KeysOn (d : List UInt8) (l : List ByteArray) : Prop := ∀ (dv : Value) (first x : Int) (kv : Value) (w : World), DocAt w dv d → StrsAt w kv l → 0 ≤ first ∧ first ≤ 1048576 → isW x = true →
    Calls Try.prog 82 #[dv, .int .i64 first, .int .i64 x, kv] w fun r w' => r = .returned (.bool (keysF d first x l)) ∧ Grew w w'
theorem shape_range (t : Int) : 0 ≤ (shapeF t).2 ∧ (shapeF t).2 ≤ 4 ∧ ((shapeF t).1 = 17 ∨ (shapeF t).1 = 10 → (shapeF t).2 = 0) := by
  have he : 0 ≤ (Ft.elemF t).2.1 ∧ (Ft.elemF t).2.1 ≤ 4 := by
    by_cases h : 0 ≤ t ∧ t ≤ 36
    · obtain ⟨k, rfl⟩ := Int.eq_ofNat_of_zero_le h.1
      have : ∀ k : Fin 37, 0 ≤ (Ft.elemF ((k : Nat) : Int)).2.1 ∧ (Ft.elemF ((k : Nat) : Int)).2.1 ≤ 4 := by decide +kernel
      exact this ⟨k, by omega⟩
    · have h0 : Ft.kindOf t = (0, 0, 0) := by
        unfold Ft.kindOf
        split
        · rfl
        · unfold Ft.kindRow
          split <;> first | rfl | omega
      unfold Ft.elemF
      rw [h0]; decide
  unfold shapeF
  repeat' split
  all_goals (refine ⟨?_, ?_, fun h => ?_⟩ <;> simp only at * <;> omega)
theorem list_form {d : List UInt8} {typ w at_ kd many k n u : Int} {s : ByteArray} {keys : List ByteArray} {l : List Tr} (hsh : shapeF typ = (kd, many)) : listF d typ w at_ (.mk k n u s keys l) =
    (bareF (.mk k n u s (if kd = 17 then [] else keys) []) kd 0 0 EMB && decide (at_ % w = 0) && decide (at_ + l.length * w + (if taggedB kd = true then (l.length : Int) else 0) ≤ d.length) &&
      (if many = 0 then (numF d (at_ - w) w).2 && decide ((numF d (at_ - w) w).1 = l.length) else decide ((l.length : Int) = many)) &&
      (if kd = 17 then decide (0 ≤ at_ - 3 * w) && decide (keys.length = l.length) && keysF d (at_ - 3 * w) w keys else true) && kidsF d typ w at_ l.length 0 l) := by
  unfold listF frontF bareF
  rw [hsh]
  simp only [Tr.kind, Tr.fn, Tr.fu, Tr.fs, Tr.keys, Tr.kids]
  by_cases h17 : kd = 17
  · subst h17
    have h1 : taggedB 17 = true := by decide
    by_cases hm0 : many = 0 <;> simp [h1, hm0, Bool.and_assoc] <;> (try rfl)
  · cases ht : taggedB kd <;> by_cases hm0 : many = 0 <;> simp [h17, ht, hm0, Bool.and_assoc] <;> (try rfl)
end Go.Proofs.Ytlhliolknaopjaa

/-
  Denote: list at a map, where says and keys are given. Conditions: the bytes, the tree lie in memory; the tree is small.
-/
namespace Go.Proofs.Ytlhliolknaopjaa
open Go Go.ChangeShapes Go.WideShapes Go.ChangeAt Go.RowKit Go.Joins Go.Deep
set_option linter.unusedVariables false
set_option linter.unusedSimpArgs false

set_option maxRecDepth 100000 in
set_option maxHeartbeats 4000000 in
theorem list_walkA (d : List UInt8) (typ k n u : Int) (s : ByteArray) (keys : List ByteArray) (l : List Tr) (hl : l.length ≤ 4096) (hkl4 : keys.length ≤ 4096) (hkids : ∀ x ∈ l, ∀ typ', ((shapeF typ).1 = 10 ∨ (shapeF typ).1 = 17 ∨ typ' = (Ft.elemF typ).1) → SaysOn d typ' x) (hkeys : (shapeF typ).1 = 17 → KeysOn d keys) (hcase : (shapeF typ).1 = 17) : ListOn d typ (.mk k n u s keys l) := by
  intro dv pos par wid at_ tv w hD hn ha hw
  simp only [NodeAt] at hn
  obtain ⟨hb, kv, lv, vs, rfl, hks, hrl, hkd⟩ := hn
  have hkl := hkd.length
  have HD := Lib.hid hD
  have HKS := Lib.hid hks
  have HB := Lib.hid hb
  have hdl := hD.2.1
  obtain ⟨da, dc, rfl, hdc⟩ := hD.form
  obtain ⟨a4, c4, rfl, hk1, hk2, hk3⟩ := hks
  have HRL := Lib.hid hrl
  obtain ⟨a5, c5, rfl, hl1, hl2, hl3, hl4⟩ := hrl
  rw [hkl] at HRL hl1 ⊢
  have HKD := Lib.hid hkd
  have HHK := Lib.hid hkids
  have HKY := Lib.hid hkeys
  have HW := Lib.hid hw
  have hlc : (l.length : Int) ≤ c5 := by omega
  clear hD hb hk1 hk2 hk3 hl2 hl3 hl4 hkd hkl hkids hkeys hl1
  have hw1 : 1 ≤ wid ∧ wid ≤ 8 := by rcases isW_cases hw with rfl | rfl | rfl | rfl <;> omega
  have hnw : 0 ≤ (l.length : Int) * wid ∧ (l.length : Int) * wid ≤ 32768 := by
    refine ⟨Int.mul_nonneg (by omega) (by omega), ?_⟩
    have h1 := Int.mul_le_mul (show (l.length : Int) ≤ 4096 by omega) hw1.2 (by omega) (by omega)
    omega
  have HSR := Lib.hid (shape_range typ)
  obtain ⟨q, hq⟩ : ∃ q, shapeF typ = q := ⟨_, rfl⟩
  rw [hq] at HSR
  have hshp := shape_any typ
  rw [hq] at hshp
  have HSP := Lib.hid hshp
  clear hshp
  obtain ⟨kd, many⟩ := q
  simp only at HSR HSP
  obtain ⟨res, hres⟩ : ∃ b, listF d typ wid at_ (.mk k n u s keys l) = b := ⟨_, rfl⟩
  rw [hres]
  have HRES := Lib.hid hres
  clear hres
  rw [list_form hq] at HRES
  have h17 : kd = 17 := by rw [hq] at hcase; exact hcase
  clear hcase
  have HQ := Lib.hid hq
  clear hq
  have HG := Lib.hid (Grew.refl w)
  go_enter Try.func47, Try.ntmps47
  go_upto_region 1 with fail
  obtain ⟨pr, hpr⟩ : ∃ N, w.heap.size = N := ⟨_, rfl⟩
  have HPR := Lib.hid hpr
  have hr1 := heap_alloc_new w (.cells #[.int .i64 pos, .int .i64 par, .int .i64 typ, .int .i64 wid] 35)
  have hga := (Grew.refl w).alloc (.cells #[.int .i64 pos, .int .i64 par, .int .i64 typ, .int .i64 wid] 35)
  have hz1 : (w.alloc (.cells #[.int .i64 pos, .int .i64 par, .int .i64 typ, .int .i64 wid] 35)).heap.size = pr + 1 := by rw [World.size_alloc, hpr]
  generalize (w.alloc (.cells #[.int .i64 pos, .int .i64 par, .int .i64 typ, .int .i64 wid] 35)) = x1 at *
  rw [hpr] at hr1 ⊢
  have hr2 := heap_alloc_new x1 (.cells #[.int .i64 k, .int .i64 n, .int .u64 u, .string s, .slice a4 keys.length c4, .slice a5 l.length c5] 27)
  have hgb := (Grew.refl x1).alloc (.cells #[.int .i64 k, .int .i64 n, .int .u64 u, .string s, .slice a4 keys.length c4, .slice a5 l.length c5] 27)
  generalize (x1.alloc (.cells #[.int .i64 k, .int .i64 n, .int .u64 u, .string s, .slice a4 keys.length c4, .slice a5 l.length c5] 27)) = x2 at *
  rw [hz1] at hr2
  try rw [hz1]
  have HRR := Lib.hid (hgb.heap hr1)
  have HRT := Lib.hid hr2
  replace HG := Lib.hid (hga.trans hgb)
  clear hr1 hr2 hz1 hpr hga hgb
  have c0 := row_cellT HRR.out 0 _ rfl
  have c1 := row_cellT HRR.out 1 _ rfl
  have c2 := row_cellT HRR.out 2 _ rfl
  have c3 := row_cellT HRR.out 3 _ rfl
  have e0 := row_cellT HRT.out 0 _ rfl
  have e1 := row_cellT HRT.out 1 _ rfl
  have e2 := row_cellT HRT.out 2 _ rfl
  have e3 := row_cellT HRT.out 3 _ rfl
  have e4 := row_cellT HRT.out 4 _ rfl
  have e5 := row_cellT HRT.out 5 _ rfl
  go_quiet (fail)
  have hgc := (Grew.refl x2).drewN nq
  obtain ⟨x3, hx3⟩ : ∃ x3, x2.drewN nq = x3 := ⟨_, rfl⟩
  rw [hx3] at hgc ⊢
  clear hx3
  clear c0 c1 c2 c3
  clear e0 e1 e2 e3 e4 e5
  replace HRR := Lib.hid (hgc.heap HRR.out)
  replace HRT := Lib.hid (hgc.heap HRT.out)
  replace HG := Lib.hid (HG.out.trans hgc)
  clear hgc
  have c0 := row_cellT HRR.out 0 _ rfl
  have c1 := row_cellT HRR.out 1 _ rfl
  have c2 := row_cellT HRR.out 2 _ rfl
  have c3 := row_cellT HRR.out 3 _ rfl
  have e0 := row_cellT HRT.out 0 _ rfl
  have e1 := row_cellT HRT.out 1 _ rfl
  have e2 := row_cellT HRT.out 2 _ rfl
  have e3 := row_cellT HRT.out 3 _ rfl
  have e4 := row_cellT HRT.out 4 _ rfl
  have e5 := row_cellT HRT.out 5 _ rfl
  go_wp2_with fail
  refine (HSP.out x3).mono ?_
  rintro r u1 ⟨rfl, hgc⟩
  clear c0 c1 c2 c3
  clear e0 e1 e2 e3 e4 e5
  replace HRR := Lib.hid (hgc.heap HRR.out)
  replace HRT := Lib.hid (hgc.heap HRT.out)
  replace HG := Lib.hid (HG.out.trans hgc)
  clear hgc
  have c0 := row_cellT HRR.out 0 _ rfl
  have c1 := row_cellT HRR.out 1 _ rfl
  have c2 := row_cellT HRR.out 2 _ rfl
  have c3 := row_cellT HRR.out 3 _ rfl
  have e0 := row_cellT HRT.out 0 _ rfl
  have e1 := row_cellT HRT.out 1 _ rfl
  have e2 := row_cellT HRT.out 2 _ rfl
  have e3 := row_cellT HRT.out 3 _ rfl
  have e4 := row_cellT HRT.out 4 _ rfl
  have e5 := row_cellT HRT.out 5 _ rfl
  have hws : IntKind.i64.wrap ((l.length : Int) * wid) = (l.length : Int) * wid := by rw [IntKind.wrap_i64]; omega
  have hwe : IntKind.i64.wrap (at_ + (l.length : Int) * wid) = at_ + (l.length : Int) * wid := by rw [IntKind.wrap_i64]; omega
  have hwt : IntKind.i64.wrap (at_ + (l.length : Int) * wid + l.length) = at_ + (l.length : Int) * wid + l.length := by rw [IntKind.wrap_i64]; omega
  have hwf : IntKind.i64.wrap (at_ - wid) = at_ - wid := by rw [IntKind.wrap_i64]; omega
  have hw3 : IntKind.i64.wrap (3 * wid) = 3 * wid := by rw [IntKind.wrap_i64]; omega
  have hwm3 : IntKind.i64.wrap (at_ - 3 * wid) = at_ - 3 * wid := by rw [IntKind.wrap_i64]; omega
  have ht : Int.tmod at_ wid = at_ % wid := Int.tmod_eq_emod_of_nonneg ha.1
  have hwz : (wid == 0) = false := by rw [beq_eq_false_iff_ne]; omega
  have hm0 : 0 ≤ at_ % wid ∧ at_ % wid < 8 := ⟨Int.emod_nonneg _ (by omega), Int.lt_of_lt_of_le (Int.emod_lt_of_pos _ (by omega)) hw1.2⟩
  have hwm : IntKind.i64.wrap (at_ % wid) = at_ % wid := by rw [IntKind.wrap_i64]; omega
  obtain ⟨md, hmd⟩ : ∃ q, at_ % wid = q := ⟨_, rfl⟩
  rw [hmd] at ht hwm hm0 HRES
  clear hmd
  obtain ⟨K0, hK0⟩ : ∃ b, kidsF d typ wid at_ l.length 0 l = b := ⟨_, rfl⟩
  rw [hK0] at HRES
  have HK0 := Lib.hid hK0
  clear hK0
  obtain rfl : many = 0 := HSR.out.2.2 (.inl h17)
  subst h17
  go_upto_region 5 with fail
  have hf4 := row_frozen HRT.out 4
  go_upto_region 6 with fail
  have hrt2 := heap_setCell_same u1 (pr + 1) 4 _ _ (.slice none 0 0) HRT.out
  have hg2 : Grew w (u1.setCell ⟨pr + 1, 4, none⟩ (.slice none 0 0)) := HG.out.setCell (by show w.heap.size ≤ pr + 1; rw [HPR.out]; omega) _
  have hm2 : Moved (fun g => g = pr + 1) u1 (u1.setCell ⟨pr + 1, 4, none⟩ (.slice none 0 0)) := Moved.setCell (S := fun g => g = pr + 1) (p := ⟨pr + 1, 4, none⟩) (Moved.refl _ u1) (fun _ => rfl) _
  have hrr2 := hm2.heap HRR.out (by omega)
  generalize (u1.setCell ⟨pr + 1, 4, none⟩ (.slice none 0 0)) = u2 at *
  replace HRR := Lib.hid hrr2
  replace HRT := Lib.hid hrt2
  replace HG := Lib.hid hg2
  clear hrt2 hg2 hm2 hrr2 hf4
  clear c0 c1 c2 c3
  clear e0 e1 e2 e3 e4 e5
  have c0 := row_cellT HRR.out 0 _ rfl
  have c1 := row_cellT HRR.out 1 _ rfl
  have c2 := row_cellT HRR.out 2 _ rfl
  have c3 := row_cellT HRR.out 3 _ rfl
  have e0 := row_cellT HRT.out 0 _ rfl
  have e1 := row_cellT HRT.out 1 _ rfl
  have e2 := row_cellT HRT.out 2 _ rfl
  have e3 := row_cellT HRT.out 3 _ rfl
  have e4 := row_cellT HRT.out 4 _ rfl
  have e5 := row_cellT HRT.out 5 _ rfl
  go_upto_region 8 with fail
  have hrp := heap_alloc_new u2 (.cells #[.int .i64 k, .int .i64 n, .int .u64 u, .string s, .slice none 0 0, .slice none 0 0] 27)
  have hgc := (Grew.refl u2).alloc (.cells #[.int .i64 k, .int .i64 n, .int .u64 u, .string s, .slice none 0 0, .slice none 0 0] 27)
  obtain ⟨pp, hpp⟩ : ∃ N, u2.heap.size = N := ⟨_, rfl⟩
  generalize (u2.alloc (.cells #[.int .i64 k, .int .i64 n, .int .u64 u, .string s, .slice none 0 0, .slice none 0 0] 27)) = u3 at *
  rw [hpp] at hrp ⊢
  have HRP := Lib.hid hrp
  clear hrp hpp
  clear c0 c1 c2 c3
  clear e0 e1 e2 e3 e4 e5
  replace HRR := Lib.hid (hgc.heap HRR.out)
  replace HRT := Lib.hid (hgc.heap HRT.out)
  replace HG := Lib.hid (HG.out.trans hgc)
  clear hgc
  have c0 := row_cellT HRR.out 0 _ rfl
  have c1 := row_cellT HRR.out 1 _ rfl
  have c2 := row_cellT HRR.out 2 _ rfl
  have c3 := row_cellT HRR.out 3 _ rfl
  have e0 := row_cellT HRT.out 0 _ rfl
  have e1 := row_cellT HRT.out 1 _ rfl
  have e2 := row_cellT HRT.out 2 _ rfl
  have e3 := row_cellT HRT.out 3 _ rfl
  have e4 := row_cellT HRT.out 4 _ rfl
  have e5 := row_cellT HRT.out 5 _ rfl
  have p0 := row_cellT HRP.out 0 _ rfl
  have p1 := row_cellT HRP.out 1 _ rfl
  have p2 := row_cellT HRP.out 2 _ rfl
  have p3 := row_cellT HRP.out 3 _ rfl
  have p4 := row_cellT HRP.out 4 _ rfl
  have p5 := row_cellT HRP.out 5 _ rfl
  obtain ⟨b0, hb0⟩ : ∃ b, bareF (.mk k n u s [] []) 17 0 0 EMB = b := ⟨_, rfl⟩
  have HB0 := Lib.hid hb0
  clear hb0
  have HRS : Hid (res = (b0 && decide (md = 0) && decide (at_ + (l.length : Int) * wid + (l.length : Int) ≤ d.length) && ((numF d (at_ - wid) wid).2 && decide ((numF d (at_ - wid) wid).1 = l.length)) && (decide (0 ≤ at_ - 3 * wid) && decide (keys.length = l.length) && keysF d (at_ - 3 * wid) wid keys) && K0)) := by show _ = _; rw [← HRES.out, ← HB0.out]; rfl
  have hnp : NodeAt u3 (.mk k n u s [] []) (.agg #[.int .i64 k, .int .i64 n, .int .u64 u, .string s, .slice none 0 0, .slice none 0 0]) := ⟨HB.out, _, _, [], rfl, StrsAt.nil _, RowsAt.nil _, rfl⟩
  have hh := bare_any _ _ 17 0 0 ⟨#[]⟩ _ hnp
  rw [show bareF (.mk k n u s [] []) 17 0 0 ⟨#[]⟩ = b0 from HB0.out] at hh
  have HH := Lib.hid hh
  clear hh hnp
  go_wp2_with fail
  refine HH.out.mono ?_
  rintro r u4 ⟨rfl, hgc⟩
  clear c0 c1 c2 c3
  clear e0 e1 e2 e3 e4 e5
  clear p0 p1 p2 p3 p4 p5
  replace HRR := Lib.hid (hgc.heap HRR.out)
  replace HRT := Lib.hid (hgc.heap HRT.out)
  replace HG := Lib.hid (HG.out.trans hgc)
  clear hgc
  have c0 := row_cellT HRR.out 0 _ rfl
  have c1 := row_cellT HRR.out 1 _ rfl
  have c2 := row_cellT HRR.out 2 _ rfl
  have c3 := row_cellT HRR.out 3 _ rfl
  have e0 := row_cellT HRT.out 0 _ rfl
  have e1 := row_cellT HRT.out 1 _ rfl
  have e2 := row_cellT HRT.out 2 _ rfl
  have e3 := row_cellT HRT.out 3 _ rfl
  have e4 := row_cellT HRT.out 4 _ rfl
  have e5 := row_cellT HRT.out 5 _ rfl
  cases b0
  · skip
    have HV : Hid (res = false) := by show _ = _; rw [HRS.out]; simp
    go_wp2_with fail
    go_ret
    exact ⟨by rw [HV.out]; rfl, HG.out⟩
  by_cases hmd0 : md = 0
  rotate_left
  · have hbx : (md != 0) = true := by simpa using hmd0
    have HV : Hid (res = false) := by show _ = _; rw [HRS.out]; simp [hmd0]
    go_wp2_with fail
    go_ret
    exact ⟨by rw [HV.out]; rfl, HG.out⟩
  subst hmd0
  by_cases hend : at_ + (l.length : Int) * wid + (l.length : Int) ≤ d.length
  rotate_left
  · have hgt : (d.length : Int) < at_ + (l.length : Int) * wid + (l.length : Int) := by omega
    have HV : Hid (res = false) := by show _ = _; rw [HRS.out]; simp [hend]
    go_wp2_with fail
    go_ret
    exact ⟨by rw [HV.out]; rfl, HG.out⟩
  obtain ⟨nn, hnn⟩ : ∃ q, numF d (at_ - wid) wid = q := ⟨_, rfl⟩
  have hnum := dnum_any d (.slice da d.length dc) (at_ - wid) wid
  rw [hnn] at HRS hnum
  have HNU := Lib.hid hnum
  clear hnn hnum
  obtain ⟨nv, ni⟩ := nn
  simp only at HRS HNU
  go_wp2_with fail
  refine (HNU.out u4 (HD.out.grew HG.out) (by unfold i64ok; omega)).mono ?_
  rintro r u5 ⟨rfl, hgc⟩
  clear c0 c1 c2 c3
  clear e0 e1 e2 e3 e4 e5
  replace HRR := Lib.hid (hgc.heap HRR.out)
  replace HRT := Lib.hid (hgc.heap HRT.out)
  replace HG := Lib.hid (HG.out.trans hgc)
  clear hgc
  have c0 := row_cellT HRR.out 0 _ rfl
  have c1 := row_cellT HRR.out 1 _ rfl
  have c2 := row_cellT HRR.out 2 _ rfl
  have c3 := row_cellT HRR.out 3 _ rfl
  have e0 := row_cellT HRT.out 0 _ rfl
  have e1 := row_cellT HRT.out 1 _ rfl
  have e2 := row_cellT HRT.out 2 _ rfl
  have e3 := row_cellT HRT.out 3 _ rfl
  have e4 := row_cellT HRT.out 4 _ rfl
  have e5 := row_cellT HRT.out 5 _ rfl
  cases ni
  · skip
    have HV : Hid (res = false) := by show _ = _; rw [HRS.out]; simp
    go_wp2_with fail
    go_ret
    exact ⟨by rw [HV.out]; rfl, HG.out⟩
  by_cases hnv : nv = (l.length : Int)
  rotate_left
  · have hbx : (nv != (l.length : Int)) = true := by simpa using hnv
    have HV : Hid (res = false) := by show _ = _; rw [HRS.out]; simp [hnv]
    go_wp2_with fail
    go_ret
    exact ⟨by rw [HV.out]; rfl, HG.out⟩
  have hbx : (nv != (l.length : Int)) = false := by simpa using hnv
  by_cases hf0 : 0 ≤ at_ - 3 * wid
  rotate_left
  · have hlt0 : at_ - 3 * wid < 0 := by omega
    have HV : Hid (res = false) := by show _ = _; rw [HRS.out]; simp [show ¬ 3 * wid ≤ at_ by omega]
    go_wp2_with fail
    go_ret
    exact ⟨by rw [HV.out]; rfl, HG.out⟩
  by_cases hkn : keys.length = l.length
  rotate_left
  · have hbk : ((keys.length : Int) != (l.length : Int)) = true := by simp; omega
    have HV : Hid (res = false) := by show _ = _; rw [HRS.out]; simp [hkn]
    go_wp2_with fail
    go_ret
    exact ⟨by rw [HV.out]; rfl, HG.out⟩
  have hbk : ((keys.length : Int) != (l.length : Int)) = false := by simp; omega
  obtain ⟨kB, hkB⟩ : ∃ b, keysF d (at_ - 3 * wid) wid keys = b := ⟨_, rfl⟩
  have HKB := Lib.hid hkB
  have HRS2 : Hid (res = (kB && K0)) := by show _ = _; rw [HRS.out, hkB]; simp [hnv, hend, hkn, show 3 * wid ≤ at_ by omega]
  clear hkB
  have HKC := Lib.hid (HKY.out (by rw [HQ.out]) (.slice da d.length dc) (at_ - 3 * wid) wid (.slice a4 keys.length c4) u5 (HD.out.grew HG.out) (HKS.out.grew HG.out) ⟨hf0, by omega⟩ HW.out)
  rw [HKB.out] at HKC
  clear hnv hkn
  go_wp2_with fail
  refine HKC.out.mono ?_
  rintro r u6 ⟨rfl, hgc⟩
  clear c0 c1 c2 c3
  clear e0 e1 e2 e3 e4 e5
  replace HRR := Lib.hid (hgc.heap HRR.out)
  replace HRT := Lib.hid (hgc.heap HRT.out)
  replace HG := Lib.hid (HG.out.trans hgc)
  clear hgc
  have c0 := row_cellT HRR.out 0 _ rfl
  have c1 := row_cellT HRR.out 1 _ rfl
  have c2 := row_cellT HRR.out 2 _ rfl
  have c3 := row_cellT HRR.out 3 _ rfl
  have e0 := row_cellT HRT.out 0 _ rfl
  have e1 := row_cellT HRT.out 1 _ rfl
  have e2 := row_cellT HRT.out 2 _ rfl
  have e3 := row_cellT HRT.out 3 _ rfl
  have e4 := row_cellT HRT.out 4 _ rfl
  have e5 := row_cellT HRT.out 5 _ rfl
  cases kB
  · have HV : Hid (res = false) := by show _ = _; rw [HRS2.out]; simp
    go_wp2_with fail
    go_ret
    exact ⟨by rw [HV.out]; rfl, HG.out⟩
  replace HRS2 : Hid (res = K0) := by show _ = _; rw [HRS2.out]; simp
  have hel := Ft.elem_any typ
  obtain ⟨el, hel2⟩ : ∃ e, Ft.elemF typ = e := ⟨_, rfl⟩
  rw [hel2] at hel
  have HEL := Lib.hid hel
  have HEQ := Lib.hid hel2
  clear hel hel2
  obtain ⟨el1, el2, el3⟩ := el
  simp only at HEL
  have HFI : Hid (firstF typ wid at_ = at_ - 3 * wid) := by show _ = _; unfold firstF; rw [HQ.out]; rfl
  have HEO : Hid (∀ i : Nat, elemOf d typ wid at_ l.length i = Ft.unpackF ((d[(at_ + (l.length : Int) * wid + i).toNat]?).getD 0).toNat) := fun i => by unfold elemOf; rw [HQ.out]; rfl
  go_wp2_with fail
  refine (HEL.out _).mono ?_
  rintro r u7 ⟨rfl, hgc⟩
  clear c0 c1 c2 c3
  clear e0 e1 e2 e3 e4 e5
  replace HRR := Lib.hid (hgc.heap HRR.out)
  replace HRT := Lib.hid (hgc.heap HRT.out)
  replace HG := Lib.hid (HG.out.trans hgc)
  clear hgc
  have c0 := row_cellT HRR.out 0 _ rfl
  have c1 := row_cellT HRR.out 1 _ rfl
  have c2 := row_cellT HRR.out 2 _ rfl
  have c3 := row_cellT HRR.out 3 _ rfl
  have e0 := row_cellT HRT.out 0 _ rfl
  have e1 := row_cellT HRT.out 1 _ rfl
  have e2 := row_cellT HRT.out 2 _ rfl
  have e3 := row_cellT HRT.out 3 _ rfl
  have e4 := row_cellT HRT.out 4 _ rfl
  have e5 := row_cellT HRT.out 5 _ rfl
  have HEND : Hid (at_ + (l.length : Int) * wid + (l.length : Int) ≤ d.length) := hend
  go_upto_region 27 with fail
  go_wp2_with fail
  clear c0 c1 c2 c3
  clear e0 e1 e2 e3 e4 e5
  go_loopw [136] (fun i wr => ∃ kk : Nat, kk ≤ l.length ∧ i = .int .i64 kk ∧ Hid (Grew u7 wr ∧ K0 = kidsF d typ wid at_ l.length kk (l.drop kk))) (fun i _ => l.length - (intOf i).toNat)
  case atStart => exact ⟨0, Nat.zero_le _, rfl, by show _ ∧ _; exact ⟨Grew.refl _, by rw [List.drop_zero]; exact HK0.out.symm⟩⟩
  case round =>
    obtain ⟨kk, hkk, rfl, HL⟩ := hrel
    have HGW := Lib.hid (HG.out.trans HL.out.1)
    by_cases hlt : kk < l.length
    rotate_left
    · have ek : kk = l.length := by omega
      have HV : Hid (res = true) := by show _ = _; rw [HRS2.out, HL.out.2, ek, List.drop_length]; rfl
      subst ek
      clear hlt
      go_wp2_with fail
      go_ret
      exact ⟨by rw [HV.out]; rfl, HGW.out⟩
    obtain ⟨x, hx⟩ : ∃ x, l[kk]? = some x := ⟨_, List.getElem?_eq_getElem hlt⟩
    obtain ⟨xv, hxv, hnx⟩ := HKD.out.get hx
    have hxm : x ∈ l := List.mem_of_getElem? hx
    have HDR : Hid (l.drop kk = x :: l.drop (kk + 1)) := by show _ = _; rw [List.drop_eq_getElem_cons hlt]; congr 1; rw [List.getElem?_eq_getElem hlt] at hx; injection hx
    obtain ⟨b, off, rfl, hc6⟩ : ∃ b off, a5 = some ⟨b, off, none⟩ ∧ Cells6 wr b (off + kk * 6) xv := by
      obtain ⟨a, c, e, _, _, _, h⟩ := HRL.out
      injection e with e1 e2 e3
      subst e1
      obtain ⟨b, off, e, h6⟩ := h kk xv hxv
      exact ⟨b, off, e, h6.grew HGW.out⟩
    obtain ⟨xk, xn, xu, xs, xa4, xn4, xc4, xa5, xn5, xc5, rfl⟩ := hnx.node6
    obtain ⟨f0, f1, f2, f3, f4, f5⟩ := hc6.get
    have HNX := Lib.hid (hnx.grew HGW.out)
    have hlti : (kk : Int) < l.length := by omega
    have hkw : 0 ≤ (kk : Int) * wid ∧ (kk : Int) * wid ≤ 32768 := by
      refine ⟨Int.mul_nonneg (by omega) (by omega), ?_⟩
      have h1 := Int.mul_le_mul (show (kk : Int) ≤ 4096 by omega) hw1.2 (by omega) (by omega)
      omega
    have hwk : IntKind.i64.wrap ((kk : Int) * wid) = (kk : Int) * wid := by rw [IntKind.wrap_i64]; omega
    have hwk2 : IntKind.i64.wrap (at_ + (kk : Int) * wid) = at_ + (kk : Int) * wid := by rw [IntKind.wrap_i64]; omega
    have HSX := Lib.hid (HHK.out x hxm)
    clear hc6 hx hxv hnx hxm
    have hix : (at_ + (l.length : Int) * wid + (kk : Int)).toNat < d.length := by have := HEND.out; omega
    have hwx : IntKind.i64.wrap (at_ + (l.length : Int) * wid + (kk : Int)) = at_ + (l.length : Int) * wid + (kk : Int) := by rw [IntKind.wrap_i64]; omega
    have hend2 : at_ + (l.length : Int) * wid + (kk : Int) < d.length := by have := HEND.out; omega
    have hpos2 : 0 ≤ at_ + (l.length : Int) * wid + (kk : Int) := by omega
    obtain ⟨by_, hby⟩ : ∃ b, d[(at_ + (l.length : Int) * wid + (kk : Int)).toNat]? = some b := ⟨_, List.getElem?_eq_getElem hix⟩
    obtain ⟨bl, bo, rfl, hcb⟩ : ∃ bl bo, da = some ⟨bl, bo, none⟩ ∧ w.cell? ⟨bl, bo + (at_ + (l.length : Int) * wid + (kk : Int)).toNat, none⟩ = some (.int .u8 by_.toNat) := by
      obtain ⟨⟨a, c, e, _, _, h⟩, _⟩ := HD.out
      cases e
      obtain ⟨bl, bo, e, hc⟩ := h _ by_ hby
      exact ⟨bl, bo, e, hc⟩
    have hun := Ft.unpack_any by_.toNat
    obtain ⟨un, hun2⟩ : ∃ q, Ft.unpackF by_.toNat = q := ⟨_, rfl⟩
    rw [hun2] at hun
    have HUN := Lib.hid hun
    have HEK : Hid (elemOf d typ wid at_ l.length kk = un) := by show _ = _; rw [HEO.out, hby]; exact hun2
    clear hun hun2 hby
    obtain ⟨own, wide, ue⟩ := un
    simp only at HUN
    go_upto_region 31 with fail
    obtain ⟨px, hpx⟩ : ∃ N, wr.heap.size = N := ⟨_, rfl⟩
    have hrx := heap_alloc_new wr (.cells #[.int .i64 xk, .int .i64 xn, .int .u64 xu, .string xs, .slice xa4 xn4 xc4, .slice xa5 xn5 xc5] 27)
    have hgx := (Grew.refl wr).alloc (.cells #[.int .i64 xk, .int .i64 xn, .int .u64 xu, .string xs, .slice xa4 xn4 xc4, .slice xa5 xn5 xc5] 27)
    have hzx : (wr.alloc (.cells #[.int .i64 xk, .int .i64 xn, .int .u64 xu, .string xs, .slice xa4 xn4 xc4, .slice xa5 xn5 xc5] 27)).heap.size = px + 1 := by rw [World.size_alloc, hpx]
    generalize (wr.alloc (.cells #[.int .i64 xk, .int .i64 xn, .int .u64 xu, .string xs, .slice xa4 xn4 xc4, .slice xa5 xn5 xc5] 27)) = y1 at *
    rw [hpx] at hrx ⊢
    have hry := heap_alloc_new y1 (.cells #[.int .i64 (at_ + (kk : Int) * wid), .int .i64 wid, .int .i64 el1, .int .i64 wid] 35)
    have hgy := (Grew.refl y1).alloc (.cells #[.int .i64 (at_ + (kk : Int) * wid), .int .i64 wid, .int .i64 el1, .int .i64 wid] 35)
    generalize (y1.alloc (.cells #[.int .i64 (at_ + (kk : Int) * wid), .int .i64 wid, .int .i64 el1, .int .i64 wid] 35)) = y2 at *
    rw [hzx] at hry
    try rw [hzx]
    have HRX := Lib.hid (hgy.heap hrx)
    have HRY := Lib.hid hry
    have HGY := Lib.hid (hgx.trans hgy)
    have HPX := Lib.hid hpx
    have hcb2 := (HGW.out.trans HGY.out).cell hcb
    clear hrx hry hgx hgy hzx hpx f0 f1 f2 f3 f4 f5
    go_wp2_with fail
    refine (HUN.out y2 (by exact UInt8.toNat_lt _)).mono ?_
    rintro r y3 ⟨rfl, hg4⟩
    have HG4 := Lib.hid (HGY.out.trans hg4)
    have HRX3 := Lib.hid (hg4.heap HRX.out)
    have HRY3 := Lib.hid (hg4.heap HRY.out)
    clear hg4 hcb2
    by_cases hue : ue = 0
    rotate_left
    · have hbu : (ue != 0) = true := by simpa using hue
      have HV : Hid (res = false) := by show _ = _; rw [HRS2.out, HL.out.2, HDR.out, kidsF, HEK.out, decide_eq_false hue]; rfl
      have HGF := Lib.hid (HGW.out.trans HG4.out)
      clear hue
      go_wp2_with fail
      go_ret
      exact ⟨by rw [HV.out]; rfl, HGF.out⟩
    subst hue
    have fy2 := row_frozen HRY3.out 2
    have fy3 := row_frozen HRY3.out 3
    have cy2 := row_cellT HRY3.out 2 _ rfl
    have cy3 := row_cellT HRY3.out 3 _ rfl
    go_upto_region 36 with fail
    have hry4 := heap_setCell_same _ (px + 1) 3 _ _ (.int .i64 wide) (heap_setCell_same y3 (px + 1) 2 _ _ (.int .i64 own) HRY3.out)
    have hmy : Moved (fun g => g = px + 1) y3 ((y3.setCell ⟨px + 1, 2, none⟩ (.int .i64 own)).setCell ⟨px + 1, 3, none⟩ (.int .i64 wide)) := Moved.setCell (S := fun g => g = px + 1) (p := ⟨px + 1, 3, none⟩) (Moved.setCell (S := fun g => g = px + 1) (p := ⟨px + 1, 2, none⟩) (Moved.refl _ y3) (fun _ => rfl) _) (fun _ => rfl) _
    have hg5 : Grew wr ((y3.setCell ⟨px + 1, 2, none⟩ (.int .i64 own)).setCell ⟨px + 1, 3, none⟩ (.int .i64 wide)) := Moved.fresh HG4.out hmy (fun g e => by have := HPX.out; omega)
    have hrx4 := hmy.heap HRX3.out (by omega)
    generalize ((y3.setCell ⟨px + 1, 2, none⟩ (.int .i64 own)).setCell ⟨px + 1, 3, none⟩ (.int .i64 wide)) = y4 at *
    have HG5 := Lib.hid hg5
    clear hmy hg5 fy2 fy3 cy2 cy3
    have g0 := row_cellT hry4 0 _ rfl
    have g1 := row_cellT hry4 1 _ rfl
    have g2 := row_cellT hry4 2 _ rfl
    have g3 := row_cellT hry4 3 _ rfl
    have f0 := row_cellT hrx4 0 _ rfl
    have f1 := row_cellT hrx4 1 _ rfl
    have f2 := row_cellT hrx4 2 _ rfl
    have f3 := row_cellT hrx4 3 _ rfl
    have f4 := row_cellT hrx4 4 _ rfl
    have f5 := row_cellT hrx4 5 _ rfl
    clear hry4 hrx4
    have hsay := HSX.out own (.inr (.inl (by rw [HQ.out]))) (.slice (some ⟨bl, bo, none⟩) d.length dc) (at_ + (kk : Int) * wid) wid wide (at_ - 3 * wid) _ y4 (HD.out.grew (HGW.out.trans HG5.out)) (HNX.out.grew HG5.out) (by unfold i64ok; omega)
    obtain ⟨sB, hsB⟩ : ∃ b, saysF d own (at_ + (kk : Int) * wid) wid wide (at_ - 3 * wid) x = b := ⟨_, rfl⟩
    rw [hsB] at hsay
    have HKX : Hid (K0 = (sB && kidsF d typ wid at_ l.length (kk + 1) (l.drop (kk + 1)))) := by show _ = _; rw [HL.out.2, HDR.out, kidsF, HEK.out]; simp only; rw [HFI.out, hsB]; rfl
    have HSAY := Lib.hid hsay
    clear hsay hsB
    go_wp2_with fail
    refine HSAY.out.mono ?_
    rintro r y5 ⟨rfl, hg6⟩
    have HG6 := Lib.hid (HG5.out.trans hg6)
    clear hg6 g0 g1 g2 g3 f0 f1 f2 f3 f4 f5
    cases sB
    · have HV : Hid (res = false) := by show _ = _; rw [HRS2.out, HKX.out]; rfl
      have HGF := Lib.hid (HGW.out.trans HG6.out)
      go_wp2_with fail
      go_ret
      exact ⟨by rw [HV.out]; rfl, HGF.out⟩
    · go_wp2_with fail
      go_roundw
      case rel => exact ⟨kk + 1, by omega, by go_num, by
        show _ ∧ _
        exact ⟨HL.out.1.trans HG6.out, by rw [HKX.out]; rfl⟩⟩
      case measure => simp [intOf]; omega
end Go.Proofs.Ytlhliolknaopjaa

/-
  Denote: list at an untyped vector, where says and keys are given. Conditions: the bytes, the tree lie in memory; the tree is small.
-/
namespace Go.Proofs.Ytlhliolknaopjaa
open Go Go.ChangeShapes Go.WideShapes Go.ChangeAt Go.RowKit Go.Joins Go.Deep
set_option linter.unusedVariables false
set_option linter.unusedSimpArgs false

set_option maxRecDepth 100000 in
set_option maxHeartbeats 4000000 in
theorem list_walkB (d : List UInt8) (typ k n u : Int) (s : ByteArray) (keys : List ByteArray) (l : List Tr) (hl : l.length ≤ 4096) (hkl4 : keys.length ≤ 4096) (hkids : ∀ x ∈ l, ∀ typ', ((shapeF typ).1 = 10 ∨ (shapeF typ).1 = 17 ∨ typ' = (Ft.elemF typ).1) → SaysOn d typ' x) (hkeys : (shapeF typ).1 = 17 → KeysOn d keys) (hcase : (shapeF typ).1 = 10) : ListOn d typ (.mk k n u s keys l) := by
  intro dv pos par wid at_ tv w hD hn ha hw
  simp only [NodeAt] at hn
  obtain ⟨hb, kv, lv, vs, rfl, hks, hrl, hkd⟩ := hn
  have hkl := hkd.length
  have HD := Lib.hid hD
  have HKS := Lib.hid hks
  have HB := Lib.hid hb
  have hdl := hD.2.1
  obtain ⟨da, dc, rfl, hdc⟩ := hD.form
  obtain ⟨a4, c4, rfl, hk1, hk2, hk3⟩ := hks
  have HRL := Lib.hid hrl
  obtain ⟨a5, c5, rfl, hl1, hl2, hl3, hl4⟩ := hrl
  rw [hkl] at HRL hl1 ⊢
  have HKD := Lib.hid hkd
  have HHK := Lib.hid hkids
  have HKY := Lib.hid hkeys
  have HW := Lib.hid hw
  have hlc : (l.length : Int) ≤ c5 := by omega
  clear hD hb hk1 hk2 hk3 hl2 hl3 hl4 hkd hkl hkids hkeys hl1
  have hw1 : 1 ≤ wid ∧ wid ≤ 8 := by rcases isW_cases hw with rfl | rfl | rfl | rfl <;> omega
  have hnw : 0 ≤ (l.length : Int) * wid ∧ (l.length : Int) * wid ≤ 32768 := by
    refine ⟨Int.mul_nonneg (by omega) (by omega), ?_⟩
    have h1 := Int.mul_le_mul (show (l.length : Int) ≤ 4096 by omega) hw1.2 (by omega) (by omega)
    omega
  have HSR := Lib.hid (shape_range typ)
  obtain ⟨q, hq⟩ : ∃ q, shapeF typ = q := ⟨_, rfl⟩
  rw [hq] at HSR
  have hshp := shape_any typ
  rw [hq] at hshp
  have HSP := Lib.hid hshp
  clear hshp
  obtain ⟨kd, many⟩ := q
  simp only at HSR HSP
  obtain ⟨res, hres⟩ : ∃ b, listF d typ wid at_ (.mk k n u s keys l) = b := ⟨_, rfl⟩
  rw [hres]
  have HRES := Lib.hid hres
  clear hres
  rw [list_form hq] at HRES
  have h10 : kd = 10 := by rw [hq] at hcase; exact hcase
  clear hcase
  have HQ := Lib.hid hq
  clear hq
  have HG := Lib.hid (Grew.refl w)
  go_enter Try.func47, Try.ntmps47
  go_upto_region 1 with fail
  obtain ⟨pr, hpr⟩ : ∃ N, w.heap.size = N := ⟨_, rfl⟩
  have HPR := Lib.hid hpr
  have hr1 := heap_alloc_new w (.cells #[.int .i64 pos, .int .i64 par, .int .i64 typ, .int .i64 wid] 35)
  have hga := (Grew.refl w).alloc (.cells #[.int .i64 pos, .int .i64 par, .int .i64 typ, .int .i64 wid] 35)
  have hz1 : (w.alloc (.cells #[.int .i64 pos, .int .i64 par, .int .i64 typ, .int .i64 wid] 35)).heap.size = pr + 1 := by rw [World.size_alloc, hpr]
  generalize (w.alloc (.cells #[.int .i64 pos, .int .i64 par, .int .i64 typ, .int .i64 wid] 35)) = x1 at *
  rw [hpr] at hr1 ⊢
  have hr2 := heap_alloc_new x1 (.cells #[.int .i64 k, .int .i64 n, .int .u64 u, .string s, .slice a4 keys.length c4, .slice a5 l.length c5] 27)
  have hgb := (Grew.refl x1).alloc (.cells #[.int .i64 k, .int .i64 n, .int .u64 u, .string s, .slice a4 keys.length c4, .slice a5 l.length c5] 27)
  generalize (x1.alloc (.cells #[.int .i64 k, .int .i64 n, .int .u64 u, .string s, .slice a4 keys.length c4, .slice a5 l.length c5] 27)) = x2 at *
  rw [hz1] at hr2
  try rw [hz1]
  have HRR := Lib.hid (hgb.heap hr1)
  have HRT := Lib.hid hr2
  replace HG := Lib.hid (hga.trans hgb)
  clear hr1 hr2 hz1 hpr hga hgb
  have c0 := row_cellT HRR.out 0 _ rfl
  have c1 := row_cellT HRR.out 1 _ rfl
  have c2 := row_cellT HRR.out 2 _ rfl
  have c3 := row_cellT HRR.out 3 _ rfl
  have e0 := row_cellT HRT.out 0 _ rfl
  have e1 := row_cellT HRT.out 1 _ rfl
  have e2 := row_cellT HRT.out 2 _ rfl
  have e3 := row_cellT HRT.out 3 _ rfl
  have e4 := row_cellT HRT.out 4 _ rfl
  have e5 := row_cellT HRT.out 5 _ rfl
  go_quiet (fail)
  have hgc := (Grew.refl x2).drewN nq
  obtain ⟨x3, hx3⟩ : ∃ x3, x2.drewN nq = x3 := ⟨_, rfl⟩
  rw [hx3] at hgc ⊢
  clear hx3
  clear c0 c1 c2 c3
  clear e0 e1 e2 e3 e4 e5
  replace HRR := Lib.hid (hgc.heap HRR.out)
  replace HRT := Lib.hid (hgc.heap HRT.out)
  replace HG := Lib.hid (HG.out.trans hgc)
  clear hgc
  have c0 := row_cellT HRR.out 0 _ rfl
  have c1 := row_cellT HRR.out 1 _ rfl
  have c2 := row_cellT HRR.out 2 _ rfl
  have c3 := row_cellT HRR.out 3 _ rfl
  have e0 := row_cellT HRT.out 0 _ rfl
  have e1 := row_cellT HRT.out 1 _ rfl
  have e2 := row_cellT HRT.out 2 _ rfl
  have e3 := row_cellT HRT.out 3 _ rfl
  have e4 := row_cellT HRT.out 4 _ rfl
  have e5 := row_cellT HRT.out 5 _ rfl
  go_wp2_with fail
  refine (HSP.out x3).mono ?_
  rintro r u1 ⟨rfl, hgc⟩
  clear c0 c1 c2 c3
  clear e0 e1 e2 e3 e4 e5
  replace HRR := Lib.hid (hgc.heap HRR.out)
  replace HRT := Lib.hid (hgc.heap HRT.out)
  replace HG := Lib.hid (HG.out.trans hgc)
  clear hgc
  have c0 := row_cellT HRR.out 0 _ rfl
  have c1 := row_cellT HRR.out 1 _ rfl
  have c2 := row_cellT HRR.out 2 _ rfl
  have c3 := row_cellT HRR.out 3 _ rfl
  have e0 := row_cellT HRT.out 0 _ rfl
  have e1 := row_cellT HRT.out 1 _ rfl
  have e2 := row_cellT HRT.out 2 _ rfl
  have e3 := row_cellT HRT.out 3 _ rfl
  have e4 := row_cellT HRT.out 4 _ rfl
  have e5 := row_cellT HRT.out 5 _ rfl
  have hws : IntKind.i64.wrap ((l.length : Int) * wid) = (l.length : Int) * wid := by rw [IntKind.wrap_i64]; omega
  have hwe : IntKind.i64.wrap (at_ + (l.length : Int) * wid) = at_ + (l.length : Int) * wid := by rw [IntKind.wrap_i64]; omega
  have hwt : IntKind.i64.wrap (at_ + (l.length : Int) * wid + l.length) = at_ + (l.length : Int) * wid + l.length := by rw [IntKind.wrap_i64]; omega
  have hwf : IntKind.i64.wrap (at_ - wid) = at_ - wid := by rw [IntKind.wrap_i64]; omega
  have hw3 : IntKind.i64.wrap (3 * wid) = 3 * wid := by rw [IntKind.wrap_i64]; omega
  have hwm3 : IntKind.i64.wrap (at_ - 3 * wid) = at_ - 3 * wid := by rw [IntKind.wrap_i64]; omega
  have ht : Int.tmod at_ wid = at_ % wid := Int.tmod_eq_emod_of_nonneg ha.1
  have hwz : (wid == 0) = false := by rw [beq_eq_false_iff_ne]; omega
  have hm0 : 0 ≤ at_ % wid ∧ at_ % wid < 8 := ⟨Int.emod_nonneg _ (by omega), Int.lt_of_lt_of_le (Int.emod_lt_of_pos _ (by omega)) hw1.2⟩
  have hwm : IntKind.i64.wrap (at_ % wid) = at_ % wid := by rw [IntKind.wrap_i64]; omega
  obtain ⟨md, hmd⟩ : ∃ q, at_ % wid = q := ⟨_, rfl⟩
  rw [hmd] at ht hwm hm0 HRES
  clear hmd
  obtain ⟨K0, hK0⟩ : ∃ b, kidsF d typ wid at_ l.length 0 l = b := ⟨_, rfl⟩
  rw [hK0] at HRES
  have HK0 := Lib.hid hK0
  clear hK0
  obtain rfl : many = 0 := HSR.out.2.2 (.inr h10)
  subst h10
  go_upto_region 8 with fail
  have hrp := heap_alloc_new u1 (.cells #[.int .i64 k, .int .i64 n, .int .u64 u, .string s, .slice a4 keys.length c4, .slice none 0 0] 27)
  have hgc := (Grew.refl u1).alloc (.cells #[.int .i64 k, .int .i64 n, .int .u64 u, .string s, .slice a4 keys.length c4, .slice none 0 0] 27)
  obtain ⟨pp, hpp⟩ : ∃ N, u1.heap.size = N := ⟨_, rfl⟩
  generalize (u1.alloc (.cells #[.int .i64 k, .int .i64 n, .int .u64 u, .string s, .slice a4 keys.length c4, .slice none 0 0] 27)) = u3 at *
  rw [hpp] at hrp ⊢
  have HRP := Lib.hid hrp
  clear hrp hpp
  clear c0 c1 c2 c3
  clear e0 e1 e2 e3 e4 e5
  replace HRR := Lib.hid (hgc.heap HRR.out)
  replace HRT := Lib.hid (hgc.heap HRT.out)
  replace HG := Lib.hid (HG.out.trans hgc)
  clear hgc
  have c0 := row_cellT HRR.out 0 _ rfl
  have c1 := row_cellT HRR.out 1 _ rfl
  have c2 := row_cellT HRR.out 2 _ rfl
  have c3 := row_cellT HRR.out 3 _ rfl
  have e0 := row_cellT HRT.out 0 _ rfl
  have e1 := row_cellT HRT.out 1 _ rfl
  have e2 := row_cellT HRT.out 2 _ rfl
  have e3 := row_cellT HRT.out 3 _ rfl
  have e4 := row_cellT HRT.out 4 _ rfl
  have e5 := row_cellT HRT.out 5 _ rfl
  have p0 := row_cellT HRP.out 0 _ rfl
  have p1 := row_cellT HRP.out 1 _ rfl
  have p2 := row_cellT HRP.out 2 _ rfl
  have p3 := row_cellT HRP.out 3 _ rfl
  have p4 := row_cellT HRP.out 4 _ rfl
  have p5 := row_cellT HRP.out 5 _ rfl
  obtain ⟨b0, hb0⟩ : ∃ b, bareF (.mk k n u s keys []) 10 0 0 EMB = b := ⟨_, rfl⟩
  have HB0 := Lib.hid hb0
  clear hb0
  have HRS : Hid (res = (b0 && decide (md = 0) && decide (at_ + (l.length : Int) * wid + (l.length : Int) ≤ d.length) && ((numF d (at_ - wid) wid).2 && decide ((numF d (at_ - wid) wid).1 = l.length)) && true && K0)) := by show _ = _; rw [← HRES.out, ← HB0.out]; rfl
  have hnp : NodeAt u3 (.mk k n u s keys []) (.agg #[.int .i64 k, .int .i64 n, .int .u64 u, .string s, .slice a4 keys.length c4, .slice none 0 0]) := ⟨HB.out, _, _, [], rfl, HKS.out.grew HG.out, RowsAt.nil _, rfl⟩
  have hh := bare_any _ _ 10 0 0 ⟨#[]⟩ _ hnp
  rw [show bareF (.mk k n u s keys []) 10 0 0 ⟨#[]⟩ = b0 from HB0.out] at hh
  have HH := Lib.hid hh
  clear hh hnp
  go_wp2_with fail
  refine HH.out.mono ?_
  rintro r u4 ⟨rfl, hgc⟩
  clear c0 c1 c2 c3
  clear e0 e1 e2 e3 e4 e5
  clear p0 p1 p2 p3 p4 p5
  replace HRR := Lib.hid (hgc.heap HRR.out)
  replace HRT := Lib.hid (hgc.heap HRT.out)
  replace HG := Lib.hid (HG.out.trans hgc)
  clear hgc
  have c0 := row_cellT HRR.out 0 _ rfl
  have c1 := row_cellT HRR.out 1 _ rfl
  have c2 := row_cellT HRR.out 2 _ rfl
  have c3 := row_cellT HRR.out 3 _ rfl
  have e0 := row_cellT HRT.out 0 _ rfl
  have e1 := row_cellT HRT.out 1 _ rfl
  have e2 := row_cellT HRT.out 2 _ rfl
  have e3 := row_cellT HRT.out 3 _ rfl
  have e4 := row_cellT HRT.out 4 _ rfl
  have e5 := row_cellT HRT.out 5 _ rfl
  cases b0
  · skip
    have HV : Hid (res = false) := by show _ = _; rw [HRS.out]; simp
    go_wp2_with fail
    go_ret
    exact ⟨by rw [HV.out]; rfl, HG.out⟩
  by_cases hmd0 : md = 0
  rotate_left
  · have hbx : (md != 0) = true := by simpa using hmd0
    have HV : Hid (res = false) := by show _ = _; rw [HRS.out]; simp [hmd0]
    go_wp2_with fail
    go_ret
    exact ⟨by rw [HV.out]; rfl, HG.out⟩
  subst hmd0
  by_cases hend : at_ + (l.length : Int) * wid + (l.length : Int) ≤ d.length
  rotate_left
  · have hgt : (d.length : Int) < at_ + (l.length : Int) * wid + (l.length : Int) := by omega
    have HV : Hid (res = false) := by show _ = _; rw [HRS.out]; simp [hend]
    go_wp2_with fail
    go_ret
    exact ⟨by rw [HV.out]; rfl, HG.out⟩
  obtain ⟨nn, hnn⟩ : ∃ q, numF d (at_ - wid) wid = q := ⟨_, rfl⟩
  have hnum := dnum_any d (.slice da d.length dc) (at_ - wid) wid
  rw [hnn] at HRS hnum
  have HNU := Lib.hid hnum
  clear hnn hnum
  obtain ⟨nv, ni⟩ := nn
  simp only at HRS HNU
  go_wp2_with fail
  refine (HNU.out u4 (HD.out.grew HG.out) (by unfold i64ok; omega)).mono ?_
  rintro r u5 ⟨rfl, hgc⟩
  clear c0 c1 c2 c3
  clear e0 e1 e2 e3 e4 e5
  replace HRR := Lib.hid (hgc.heap HRR.out)
  replace HRT := Lib.hid (hgc.heap HRT.out)
  replace HG := Lib.hid (HG.out.trans hgc)
  clear hgc
  have c0 := row_cellT HRR.out 0 _ rfl
  have c1 := row_cellT HRR.out 1 _ rfl
  have c2 := row_cellT HRR.out 2 _ rfl
  have c3 := row_cellT HRR.out 3 _ rfl
  have e0 := row_cellT HRT.out 0 _ rfl
  have e1 := row_cellT HRT.out 1 _ rfl
  have e2 := row_cellT HRT.out 2 _ rfl
  have e3 := row_cellT HRT.out 3 _ rfl
  have e4 := row_cellT HRT.out 4 _ rfl
  have e5 := row_cellT HRT.out 5 _ rfl
  cases ni
  · skip
    have HV : Hid (res = false) := by show _ = _; rw [HRS.out]; simp
    go_wp2_with fail
    go_ret
    exact ⟨by rw [HV.out]; rfl, HG.out⟩
  by_cases hnv : nv = (l.length : Int)
  rotate_left
  · have hbx : (nv != (l.length : Int)) = true := by simpa using hnv
    have HV : Hid (res = false) := by show _ = _; rw [HRS.out]; simp [hnv]
    go_wp2_with fail
    go_ret
    exact ⟨by rw [HV.out]; rfl, HG.out⟩
  have hbx : (nv != (l.length : Int)) = false := by simpa using hnv
  have HRS2 : Hid (res = K0) := by show _ = _; rw [HRS.out]; simp [hnv, hend]
  clear hnv
  have hel := Ft.elem_any typ
  obtain ⟨el, hel2⟩ : ∃ e, Ft.elemF typ = e := ⟨_, rfl⟩
  rw [hel2] at hel
  have HEL := Lib.hid hel
  have HEQ := Lib.hid hel2
  clear hel hel2
  obtain ⟨el1, el2, el3⟩ := el
  simp only at HEL
  have HFI : Hid (firstF typ wid at_ = at_ - wid) := by show _ = _; unfold firstF; rw [HQ.out]; rfl
  have HEO : Hid (∀ i : Nat, elemOf d typ wid at_ l.length i = Ft.unpackF ((d[(at_ + (l.length : Int) * wid + i).toNat]?).getD 0).toNat) := fun i => by unfold elemOf; rw [HQ.out]; rfl
  go_wp2_with fail
  refine (HEL.out _).mono ?_
  rintro r u7 ⟨rfl, hgc⟩
  clear c0 c1 c2 c3
  clear e0 e1 e2 e3 e4 e5
  replace HRR := Lib.hid (hgc.heap HRR.out)
  replace HRT := Lib.hid (hgc.heap HRT.out)
  replace HG := Lib.hid (HG.out.trans hgc)
  clear hgc
  have c0 := row_cellT HRR.out 0 _ rfl
  have c1 := row_cellT HRR.out 1 _ rfl
  have c2 := row_cellT HRR.out 2 _ rfl
  have c3 := row_cellT HRR.out 3 _ rfl
  have e0 := row_cellT HRT.out 0 _ rfl
  have e1 := row_cellT HRT.out 1 _ rfl
  have e2 := row_cellT HRT.out 2 _ rfl
  have e3 := row_cellT HRT.out 3 _ rfl
  have e4 := row_cellT HRT.out 4 _ rfl
  have e5 := row_cellT HRT.out 5 _ rfl
  have HEND : Hid (at_ + (l.length : Int) * wid + (l.length : Int) ≤ d.length) := hend
  go_upto_region 27 with fail
  go_wp2_with fail
  clear c0 c1 c2 c3
  clear e0 e1 e2 e3 e4 e5
  go_loopw [136] (fun i wr => ∃ kk : Nat, kk ≤ l.length ∧ i = .int .i64 kk ∧ Hid (Grew u7 wr ∧ K0 = kidsF d typ wid at_ l.length kk (l.drop kk))) (fun i _ => l.length - (intOf i).toNat)
  case atStart => exact ⟨0, Nat.zero_le _, rfl, by show _ ∧ _; exact ⟨Grew.refl _, by rw [List.drop_zero]; exact HK0.out.symm⟩⟩
  case round =>
    obtain ⟨kk, hkk, rfl, HL⟩ := hrel
    have HGW := Lib.hid (HG.out.trans HL.out.1)
    by_cases hlt : kk < l.length
    rotate_left
    · have ek : kk = l.length := by omega
      have HV : Hid (res = true) := by show _ = _; rw [HRS2.out, HL.out.2, ek, List.drop_length]; rfl
      subst ek
      clear hlt
      go_wp2_with fail
      go_ret
      exact ⟨by rw [HV.out]; rfl, HGW.out⟩
    obtain ⟨x, hx⟩ : ∃ x, l[kk]? = some x := ⟨_, List.getElem?_eq_getElem hlt⟩
    obtain ⟨xv, hxv, hnx⟩ := HKD.out.get hx
    have hxm : x ∈ l := List.mem_of_getElem? hx
    have HDR : Hid (l.drop kk = x :: l.drop (kk + 1)) := by show _ = _; rw [List.drop_eq_getElem_cons hlt]; congr 1; rw [List.getElem?_eq_getElem hlt] at hx; injection hx
    obtain ⟨b, off, rfl, hc6⟩ : ∃ b off, a5 = some ⟨b, off, none⟩ ∧ Cells6 wr b (off + kk * 6) xv := by
      obtain ⟨a, c, e, _, _, _, h⟩ := HRL.out
      injection e with e1 e2 e3
      subst e1
      obtain ⟨b, off, e, h6⟩ := h kk xv hxv
      exact ⟨b, off, e, h6.grew HGW.out⟩
    obtain ⟨xk, xn, xu, xs, xa4, xn4, xc4, xa5, xn5, xc5, rfl⟩ := hnx.node6
    obtain ⟨f0, f1, f2, f3, f4, f5⟩ := hc6.get
    have HNX := Lib.hid (hnx.grew HGW.out)
    have hlti : (kk : Int) < l.length := by omega
    have hkw : 0 ≤ (kk : Int) * wid ∧ (kk : Int) * wid ≤ 32768 := by
      refine ⟨Int.mul_nonneg (by omega) (by omega), ?_⟩
      have h1 := Int.mul_le_mul (show (kk : Int) ≤ 4096 by omega) hw1.2 (by omega) (by omega)
      omega
    have hwk : IntKind.i64.wrap ((kk : Int) * wid) = (kk : Int) * wid := by rw [IntKind.wrap_i64]; omega
    have hwk2 : IntKind.i64.wrap (at_ + (kk : Int) * wid) = at_ + (kk : Int) * wid := by rw [IntKind.wrap_i64]; omega
    have HSX := Lib.hid (HHK.out x hxm)
    clear hc6 hx hxv hnx hxm
    have hix : (at_ + (l.length : Int) * wid + (kk : Int)).toNat < d.length := by have := HEND.out; omega
    have hwx : IntKind.i64.wrap (at_ + (l.length : Int) * wid + (kk : Int)) = at_ + (l.length : Int) * wid + (kk : Int) := by rw [IntKind.wrap_i64]; omega
    have hend2 : at_ + (l.length : Int) * wid + (kk : Int) < d.length := by have := HEND.out; omega
    have hpos2 : 0 ≤ at_ + (l.length : Int) * wid + (kk : Int) := by omega
    obtain ⟨by_, hby⟩ : ∃ b, d[(at_ + (l.length : Int) * wid + (kk : Int)).toNat]? = some b := ⟨_, List.getElem?_eq_getElem hix⟩
    obtain ⟨bl, bo, rfl, hcb⟩ : ∃ bl bo, da = some ⟨bl, bo, none⟩ ∧ w.cell? ⟨bl, bo + (at_ + (l.length : Int) * wid + (kk : Int)).toNat, none⟩ = some (.int .u8 by_.toNat) := by
      obtain ⟨⟨a, c, e, _, _, h⟩, _⟩ := HD.out
      cases e
      obtain ⟨bl, bo, e, hc⟩ := h _ by_ hby
      exact ⟨bl, bo, e, hc⟩
    have hun := Ft.unpack_any by_.toNat
    obtain ⟨un, hun2⟩ : ∃ q, Ft.unpackF by_.toNat = q := ⟨_, rfl⟩
    rw [hun2] at hun
    have HUN := Lib.hid hun
    have HEK : Hid (elemOf d typ wid at_ l.length kk = un) := by show _ = _; rw [HEO.out, hby]; exact hun2
    clear hun hun2 hby
    obtain ⟨own, wide, ue⟩ := un
    simp only at HUN
    go_upto_region 31 with fail
    obtain ⟨px, hpx⟩ : ∃ N, wr.heap.size = N := ⟨_, rfl⟩
    have hrx := heap_alloc_new wr (.cells #[.int .i64 xk, .int .i64 xn, .int .u64 xu, .string xs, .slice xa4 xn4 xc4, .slice xa5 xn5 xc5] 27)
    have hgx := (Grew.refl wr).alloc (.cells #[.int .i64 xk, .int .i64 xn, .int .u64 xu, .string xs, .slice xa4 xn4 xc4, .slice xa5 xn5 xc5] 27)
    have hzx : (wr.alloc (.cells #[.int .i64 xk, .int .i64 xn, .int .u64 xu, .string xs, .slice xa4 xn4 xc4, .slice xa5 xn5 xc5] 27)).heap.size = px + 1 := by rw [World.size_alloc, hpx]
    generalize (wr.alloc (.cells #[.int .i64 xk, .int .i64 xn, .int .u64 xu, .string xs, .slice xa4 xn4 xc4, .slice xa5 xn5 xc5] 27)) = y1 at *
    rw [hpx] at hrx ⊢
    have hry := heap_alloc_new y1 (.cells #[.int .i64 (at_ + (kk : Int) * wid), .int .i64 wid, .int .i64 el1, .int .i64 wid] 35)
    have hgy := (Grew.refl y1).alloc (.cells #[.int .i64 (at_ + (kk : Int) * wid), .int .i64 wid, .int .i64 el1, .int .i64 wid] 35)
    generalize (y1.alloc (.cells #[.int .i64 (at_ + (kk : Int) * wid), .int .i64 wid, .int .i64 el1, .int .i64 wid] 35)) = y2 at *
    rw [hzx] at hry
    try rw [hzx]
    have HRX := Lib.hid (hgy.heap hrx)
    have HRY := Lib.hid hry
    have HGY := Lib.hid (hgx.trans hgy)
    have HPX := Lib.hid hpx
    have hcb2 := (HGW.out.trans HGY.out).cell hcb
    clear hrx hry hgx hgy hzx hpx f0 f1 f2 f3 f4 f5
    go_wp2_with fail
    refine (HUN.out y2 (by exact UInt8.toNat_lt _)).mono ?_
    rintro r y3 ⟨rfl, hg4⟩
    have HG4 := Lib.hid (HGY.out.trans hg4)
    have HRX3 := Lib.hid (hg4.heap HRX.out)
    have HRY3 := Lib.hid (hg4.heap HRY.out)
    clear hg4 hcb2
    by_cases hue : ue = 0
    rotate_left
    · have hbu : (ue != 0) = true := by simpa using hue
      have HV : Hid (res = false) := by show _ = _; rw [HRS2.out, HL.out.2, HDR.out, kidsF, HEK.out, decide_eq_false hue]; rfl
      have HGF := Lib.hid (HGW.out.trans HG4.out)
      clear hue
      go_wp2_with fail
      go_ret
      exact ⟨by rw [HV.out]; rfl, HGF.out⟩
    subst hue
    have fy2 := row_frozen HRY3.out 2
    have fy3 := row_frozen HRY3.out 3
    have cy2 := row_cellT HRY3.out 2 _ rfl
    have cy3 := row_cellT HRY3.out 3 _ rfl
    go_upto_region 36 with fail
    have hry4 := heap_setCell_same _ (px + 1) 3 _ _ (.int .i64 wide) (heap_setCell_same y3 (px + 1) 2 _ _ (.int .i64 own) HRY3.out)
    have hmy : Moved (fun g => g = px + 1) y3 ((y3.setCell ⟨px + 1, 2, none⟩ (.int .i64 own)).setCell ⟨px + 1, 3, none⟩ (.int .i64 wide)) := Moved.setCell (S := fun g => g = px + 1) (p := ⟨px + 1, 3, none⟩) (Moved.setCell (S := fun g => g = px + 1) (p := ⟨px + 1, 2, none⟩) (Moved.refl _ y3) (fun _ => rfl) _) (fun _ => rfl) _
    have hg5 : Grew wr ((y3.setCell ⟨px + 1, 2, none⟩ (.int .i64 own)).setCell ⟨px + 1, 3, none⟩ (.int .i64 wide)) := Moved.fresh HG4.out hmy (fun g e => by have := HPX.out; omega)
    have hrx4 := hmy.heap HRX3.out (by omega)
    generalize ((y3.setCell ⟨px + 1, 2, none⟩ (.int .i64 own)).setCell ⟨px + 1, 3, none⟩ (.int .i64 wide)) = y4 at *
    have HG5 := Lib.hid hg5
    clear hmy hg5 fy2 fy3 cy2 cy3
    have g0 := row_cellT hry4 0 _ rfl
    have g1 := row_cellT hry4 1 _ rfl
    have g2 := row_cellT hry4 2 _ rfl
    have g3 := row_cellT hry4 3 _ rfl
    have f0 := row_cellT hrx4 0 _ rfl
    have f1 := row_cellT hrx4 1 _ rfl
    have f2 := row_cellT hrx4 2 _ rfl
    have f3 := row_cellT hrx4 3 _ rfl
    have f4 := row_cellT hrx4 4 _ rfl
    have f5 := row_cellT hrx4 5 _ rfl
    clear hry4 hrx4
    have hsay := HSX.out own (.inl (by rw [HQ.out])) (.slice (some ⟨bl, bo, none⟩) d.length dc) (at_ + (kk : Int) * wid) wid wide (at_ - wid) _ y4 (HD.out.grew (HGW.out.trans HG5.out)) (HNX.out.grew HG5.out) (by unfold i64ok; omega)
    obtain ⟨sB, hsB⟩ : ∃ b, saysF d own (at_ + (kk : Int) * wid) wid wide (at_ - wid) x = b := ⟨_, rfl⟩
    rw [hsB] at hsay
    have HKX : Hid (K0 = (sB && kidsF d typ wid at_ l.length (kk + 1) (l.drop (kk + 1)))) := by show _ = _; rw [HL.out.2, HDR.out, kidsF, HEK.out]; simp only; rw [HFI.out, hsB]; rfl
    have HSAY := Lib.hid hsay
    clear hsay hsB
    go_wp2_with fail
    refine HSAY.out.mono ?_
    rintro r y5 ⟨rfl, hg6⟩
    have HG6 := Lib.hid (HG5.out.trans hg6)
    clear hg6 g0 g1 g2 g3 f0 f1 f2 f3 f4 f5
    cases sB
    · have HV : Hid (res = false) := by show _ = _; rw [HRS2.out, HKX.out]; rfl
      have HGF := Lib.hid (HGW.out.trans HG6.out)
      go_wp2_with fail
      go_ret
      exact ⟨by rw [HV.out]; rfl, HGF.out⟩
    · go_wp2_with fail
      go_roundw
      case rel => exact ⟨kk + 1, by omega, by go_num, by
        show _ ∧ _
        exact ⟨HL.out.1.trans HG6.out, by rw [HKX.out]; rfl⟩⟩
      case measure => simp [intOf]; omega
end Go.Proofs.Ytlhliolknaopjaa

/-
  Denote: list at a typed vector, where says and keys are given. Conditions: the bytes, the tree lie in memory; the tree is small.
-/
namespace Go.Proofs.Ytlhliolknaopjaa
open Go Go.ChangeShapes Go.WideShapes Go.ChangeAt Go.RowKit Go.Joins Go.Deep
set_option linter.unusedVariables false
set_option linter.unusedSimpArgs false

set_option maxRecDepth 100000 in
set_option maxHeartbeats 4000000 in
theorem list_walkC (d : List UInt8) (typ k n u : Int) (s : ByteArray) (keys : List ByteArray) (l : List Tr) (hl : l.length ≤ 4096) (hkl4 : keys.length ≤ 4096) (hkids : ∀ x ∈ l, ∀ typ', ((shapeF typ).1 = 10 ∨ (shapeF typ).1 = 17 ∨ typ' = (Ft.elemF typ).1) → SaysOn d typ' x) (hkeys : (shapeF typ).1 = 17 → KeysOn d keys) (hcase : (¬ (shapeF typ).1 = 17 ∧ ¬ (shapeF typ).1 = 10) ∧ (shapeF typ).2 = 0) : ListOn d typ (.mk k n u s keys l) := by
  intro dv pos par wid at_ tv w hD hn ha hw
  simp only [NodeAt] at hn
  obtain ⟨hb, kv, lv, vs, rfl, hks, hrl, hkd⟩ := hn
  have hkl := hkd.length
  have HD := Lib.hid hD
  have HKS := Lib.hid hks
  have HB := Lib.hid hb
  have hdl := hD.2.1
  obtain ⟨da, dc, rfl, hdc⟩ := hD.form
  obtain ⟨a4, c4, rfl, hk1, hk2, hk3⟩ := hks
  have HRL := Lib.hid hrl
  obtain ⟨a5, c5, rfl, hl1, hl2, hl3, hl4⟩ := hrl
  rw [hkl] at HRL hl1 ⊢
  have HKD := Lib.hid hkd
  have HHK := Lib.hid hkids
  have HKY := Lib.hid hkeys
  have HW := Lib.hid hw
  have hlc : (l.length : Int) ≤ c5 := by omega
  clear hD hb hk1 hk2 hk3 hl2 hl3 hl4 hkd hkl hkids hkeys hl1
  have hw1 : 1 ≤ wid ∧ wid ≤ 8 := by rcases isW_cases hw with rfl | rfl | rfl | rfl <;> omega
  have hnw : 0 ≤ (l.length : Int) * wid ∧ (l.length : Int) * wid ≤ 32768 := by
    refine ⟨Int.mul_nonneg (by omega) (by omega), ?_⟩
    have h1 := Int.mul_le_mul (show (l.length : Int) ≤ 4096 by omega) hw1.2 (by omega) (by omega)
    omega
  have HSR := Lib.hid (shape_range typ)
  obtain ⟨q, hq⟩ : ∃ q, shapeF typ = q := ⟨_, rfl⟩
  rw [hq] at HSR
  have hshp := shape_any typ
  rw [hq] at hshp
  have HSP := Lib.hid hshp
  clear hshp
  obtain ⟨kd, many⟩ := q
  simp only at HSR HSP
  obtain ⟨res, hres⟩ : ∃ b, listF d typ wid at_ (.mk k n u s keys l) = b := ⟨_, rfl⟩
  rw [hres]
  have HRES := Lib.hid hres
  clear hres
  rw [list_form hq] at HRES
  obtain ⟨⟨h17, h10⟩, hm⟩ : (¬ kd = 17 ∧ ¬ kd = 10) ∧ many = 0 := by rw [hq] at hcase; exact hcase
  clear hcase
  have HQ := Lib.hid hq
  clear hq
  have HG := Lib.hid (Grew.refl w)
  go_enter Try.func47, Try.ntmps47
  go_upto_region 1 with fail
  obtain ⟨pr, hpr⟩ : ∃ N, w.heap.size = N := ⟨_, rfl⟩
  have HPR := Lib.hid hpr
  have hr1 := heap_alloc_new w (.cells #[.int .i64 pos, .int .i64 par, .int .i64 typ, .int .i64 wid] 35)
  have hga := (Grew.refl w).alloc (.cells #[.int .i64 pos, .int .i64 par, .int .i64 typ, .int .i64 wid] 35)
  have hz1 : (w.alloc (.cells #[.int .i64 pos, .int .i64 par, .int .i64 typ, .int .i64 wid] 35)).heap.size = pr + 1 := by rw [World.size_alloc, hpr]
  generalize (w.alloc (.cells #[.int .i64 pos, .int .i64 par, .int .i64 typ, .int .i64 wid] 35)) = x1 at *
  rw [hpr] at hr1 ⊢
  have hr2 := heap_alloc_new x1 (.cells #[.int .i64 k, .int .i64 n, .int .u64 u, .string s, .slice a4 keys.length c4, .slice a5 l.length c5] 27)
  have hgb := (Grew.refl x1).alloc (.cells #[.int .i64 k, .int .i64 n, .int .u64 u, .string s, .slice a4 keys.length c4, .slice a5 l.length c5] 27)
  generalize (x1.alloc (.cells #[.int .i64 k, .int .i64 n, .int .u64 u, .string s, .slice a4 keys.length c4, .slice a5 l.length c5] 27)) = x2 at *
  rw [hz1] at hr2
  try rw [hz1]
  have HRR := Lib.hid (hgb.heap hr1)
  have HRT := Lib.hid hr2
  replace HG := Lib.hid (hga.trans hgb)
  clear hr1 hr2 hz1 hpr hga hgb
  have c0 := row_cellT HRR.out 0 _ rfl
  have c1 := row_cellT HRR.out 1 _ rfl
  have c2 := row_cellT HRR.out 2 _ rfl
  have c3 := row_cellT HRR.out 3 _ rfl
  have e0 := row_cellT HRT.out 0 _ rfl
  have e1 := row_cellT HRT.out 1 _ rfl
  have e2 := row_cellT HRT.out 2 _ rfl
  have e3 := row_cellT HRT.out 3 _ rfl
  have e4 := row_cellT HRT.out 4 _ rfl
  have e5 := row_cellT HRT.out 5 _ rfl
  go_quiet (fail)
  have hgc := (Grew.refl x2).drewN nq
  obtain ⟨x3, hx3⟩ : ∃ x3, x2.drewN nq = x3 := ⟨_, rfl⟩
  rw [hx3] at hgc ⊢
  clear hx3
  clear c0 c1 c2 c3
  clear e0 e1 e2 e3 e4 e5
  replace HRR := Lib.hid (hgc.heap HRR.out)
  replace HRT := Lib.hid (hgc.heap HRT.out)
  replace HG := Lib.hid (HG.out.trans hgc)
  clear hgc
  have c0 := row_cellT HRR.out 0 _ rfl
  have c1 := row_cellT HRR.out 1 _ rfl
  have c2 := row_cellT HRR.out 2 _ rfl
  have c3 := row_cellT HRR.out 3 _ rfl
  have e0 := row_cellT HRT.out 0 _ rfl
  have e1 := row_cellT HRT.out 1 _ rfl
  have e2 := row_cellT HRT.out 2 _ rfl
  have e3 := row_cellT HRT.out 3 _ rfl
  have e4 := row_cellT HRT.out 4 _ rfl
  have e5 := row_cellT HRT.out 5 _ rfl
  go_wp2_with fail
  refine (HSP.out x3).mono ?_
  rintro r u1 ⟨rfl, hgc⟩
  clear c0 c1 c2 c3
  clear e0 e1 e2 e3 e4 e5
  replace HRR := Lib.hid (hgc.heap HRR.out)
  replace HRT := Lib.hid (hgc.heap HRT.out)
  replace HG := Lib.hid (HG.out.trans hgc)
  clear hgc
  have c0 := row_cellT HRR.out 0 _ rfl
  have c1 := row_cellT HRR.out 1 _ rfl
  have c2 := row_cellT HRR.out 2 _ rfl
  have c3 := row_cellT HRR.out 3 _ rfl
  have e0 := row_cellT HRT.out 0 _ rfl
  have e1 := row_cellT HRT.out 1 _ rfl
  have e2 := row_cellT HRT.out 2 _ rfl
  have e3 := row_cellT HRT.out 3 _ rfl
  have e4 := row_cellT HRT.out 4 _ rfl
  have e5 := row_cellT HRT.out 5 _ rfl
  have hws : IntKind.i64.wrap ((l.length : Int) * wid) = (l.length : Int) * wid := by rw [IntKind.wrap_i64]; omega
  have hwe : IntKind.i64.wrap (at_ + (l.length : Int) * wid) = at_ + (l.length : Int) * wid := by rw [IntKind.wrap_i64]; omega
  have hwt : IntKind.i64.wrap (at_ + (l.length : Int) * wid + l.length) = at_ + (l.length : Int) * wid + l.length := by rw [IntKind.wrap_i64]; omega
  have hwf : IntKind.i64.wrap (at_ - wid) = at_ - wid := by rw [IntKind.wrap_i64]; omega
  have hw3 : IntKind.i64.wrap (3 * wid) = 3 * wid := by rw [IntKind.wrap_i64]; omega
  have hwm3 : IntKind.i64.wrap (at_ - 3 * wid) = at_ - 3 * wid := by rw [IntKind.wrap_i64]; omega
  have ht : Int.tmod at_ wid = at_ % wid := Int.tmod_eq_emod_of_nonneg ha.1
  have hwz : (wid == 0) = false := by rw [beq_eq_false_iff_ne]; omega
  have hm0 : 0 ≤ at_ % wid ∧ at_ % wid < 8 := ⟨Int.emod_nonneg _ (by omega), Int.lt_of_lt_of_le (Int.emod_lt_of_pos _ (by omega)) hw1.2⟩
  have hwm : IntKind.i64.wrap (at_ % wid) = at_ % wid := by rw [IntKind.wrap_i64]; omega
  obtain ⟨md, hmd⟩ : ∃ q, at_ % wid = q := ⟨_, rfl⟩
  rw [hmd] at ht hwm hm0 HRES
  clear hmd
  obtain ⟨K0, hK0⟩ : ∃ b, kidsF d typ wid at_ l.length 0 l = b := ⟨_, rfl⟩
  rw [hK0] at HRES
  have HK0 := Lib.hid hK0
  clear hK0
  subst hm
  have hb17 : (kd == 17) = false := by simpa using h17
  have hb10 : (kd == 10) = false := by simpa using h10
  have HN := Lib.hid (And.intro h17 h10)
  clear h17 h10
  have htg : taggedB kd = false := by unfold taggedB; rw [decide_eq_false HN.out.1, decide_eq_false HN.out.2]; rfl
  have HTG := Lib.hid htg
  clear htg
  go_upto_region 8 with fail
  have hrp := heap_alloc_new u1 (.cells #[.int .i64 k, .int .i64 n, .int .u64 u, .string s, .slice a4 keys.length c4, .slice none 0 0] 27)
  have hgc := (Grew.refl u1).alloc (.cells #[.int .i64 k, .int .i64 n, .int .u64 u, .string s, .slice a4 keys.length c4, .slice none 0 0] 27)
  obtain ⟨pp, hpp⟩ : ∃ N, u1.heap.size = N := ⟨_, rfl⟩
  generalize (u1.alloc (.cells #[.int .i64 k, .int .i64 n, .int .u64 u, .string s, .slice a4 keys.length c4, .slice none 0 0] 27)) = u3 at *
  rw [hpp] at hrp ⊢
  have HRP := Lib.hid hrp
  clear hrp hpp
  clear c0 c1 c2 c3
  clear e0 e1 e2 e3 e4 e5
  replace HRR := Lib.hid (hgc.heap HRR.out)
  replace HRT := Lib.hid (hgc.heap HRT.out)
  replace HG := Lib.hid (HG.out.trans hgc)
  clear hgc
  have c0 := row_cellT HRR.out 0 _ rfl
  have c1 := row_cellT HRR.out 1 _ rfl
  have c2 := row_cellT HRR.out 2 _ rfl
  have c3 := row_cellT HRR.out 3 _ rfl
  have e0 := row_cellT HRT.out 0 _ rfl
  have e1 := row_cellT HRT.out 1 _ rfl
  have e2 := row_cellT HRT.out 2 _ rfl
  have e3 := row_cellT HRT.out 3 _ rfl
  have e4 := row_cellT HRT.out 4 _ rfl
  have e5 := row_cellT HRT.out 5 _ rfl
  have p0 := row_cellT HRP.out 0 _ rfl
  have p1 := row_cellT HRP.out 1 _ rfl
  have p2 := row_cellT HRP.out 2 _ rfl
  have p3 := row_cellT HRP.out 3 _ rfl
  have p4 := row_cellT HRP.out 4 _ rfl
  have p5 := row_cellT HRP.out 5 _ rfl
  obtain ⟨b0, hb0⟩ : ∃ b, bareF (.mk k n u s keys []) kd 0 0 EMB = b := ⟨_, rfl⟩
  have HB0 := Lib.hid hb0
  clear hb0
  have HRS : Hid (res = (b0 && decide (md = 0) && decide (at_ + (l.length : Int) * wid + 0 ≤ d.length) && ((numF d (at_ - wid) wid).2 && decide ((numF d (at_ - wid) wid).1 = l.length)) && true && K0)) := by show _ = _; rw [← HRES.out, ← HB0.out, if_neg HN.out.1, if_neg HN.out.1, HTG.out]; rfl
  have hnp : NodeAt u3 (.mk k n u s keys []) (.agg #[.int .i64 k, .int .i64 n, .int .u64 u, .string s, .slice a4 keys.length c4, .slice none 0 0]) := ⟨HB.out, _, _, [], rfl, HKS.out.grew HG.out, RowsAt.nil _, rfl⟩
  have hh := bare_any _ _ kd 0 0 ⟨#[]⟩ _ hnp
  rw [show bareF (.mk k n u s keys []) kd 0 0 ⟨#[]⟩ = b0 from HB0.out] at hh
  have HH := Lib.hid hh
  clear hh hnp
  go_wp2_with fail
  refine HH.out.mono ?_
  rintro r u4 ⟨rfl, hgc⟩
  clear c0 c1 c2 c3
  clear e0 e1 e2 e3 e4 e5
  clear p0 p1 p2 p3 p4 p5
  replace HRR := Lib.hid (hgc.heap HRR.out)
  replace HRT := Lib.hid (hgc.heap HRT.out)
  replace HG := Lib.hid (HG.out.trans hgc)
  clear hgc
  have c0 := row_cellT HRR.out 0 _ rfl
  have c1 := row_cellT HRR.out 1 _ rfl
  have c2 := row_cellT HRR.out 2 _ rfl
  have c3 := row_cellT HRR.out 3 _ rfl
  have e0 := row_cellT HRT.out 0 _ rfl
  have e1 := row_cellT HRT.out 1 _ rfl
  have e2 := row_cellT HRT.out 2 _ rfl
  have e3 := row_cellT HRT.out 3 _ rfl
  have e4 := row_cellT HRT.out 4 _ rfl
  have e5 := row_cellT HRT.out 5 _ rfl
  cases b0
  · skip
    have HV : Hid (res = false) := by show _ = _; rw [HRS.out]; simp
    go_wp2_with fail
    go_ret
    exact ⟨by rw [HV.out]; rfl, HG.out⟩
  by_cases hmd0 : md = 0
  rotate_left
  · have hbx : (md != 0) = true := by simpa using hmd0
    have HV : Hid (res = false) := by show _ = _; rw [HRS.out]; simp [hmd0]
    go_wp2_with fail
    go_ret
    exact ⟨by rw [HV.out]; rfl, HG.out⟩
  subst hmd0
  by_cases hend : at_ + (l.length : Int) * wid ≤ d.length
  rotate_left
  · have hgt : (d.length : Int) < at_ + (l.length : Int) * wid := by omega
    have HV : Hid (res = false) := by show _ = _; rw [HRS.out]; simp [hend]
    go_wp2_with fail
    go_ret
    exact ⟨by rw [HV.out]; rfl, HG.out⟩
  obtain ⟨nn, hnn⟩ : ∃ q, numF d (at_ - wid) wid = q := ⟨_, rfl⟩
  have hnum := dnum_any d (.slice da d.length dc) (at_ - wid) wid
  rw [hnn] at HRS hnum
  have HNU := Lib.hid hnum
  clear hnn hnum
  obtain ⟨nv, ni⟩ := nn
  simp only at HRS HNU
  go_wp2_with fail
  refine (HNU.out u4 (HD.out.grew HG.out) (by unfold i64ok; omega)).mono ?_
  rintro r u5 ⟨rfl, hgc⟩
  clear c0 c1 c2 c3
  clear e0 e1 e2 e3 e4 e5
  replace HRR := Lib.hid (hgc.heap HRR.out)
  replace HRT := Lib.hid (hgc.heap HRT.out)
  replace HG := Lib.hid (HG.out.trans hgc)
  clear hgc
  have c0 := row_cellT HRR.out 0 _ rfl
  have c1 := row_cellT HRR.out 1 _ rfl
  have c2 := row_cellT HRR.out 2 _ rfl
  have c3 := row_cellT HRR.out 3 _ rfl
  have e0 := row_cellT HRT.out 0 _ rfl
  have e1 := row_cellT HRT.out 1 _ rfl
  have e2 := row_cellT HRT.out 2 _ rfl
  have e3 := row_cellT HRT.out 3 _ rfl
  have e4 := row_cellT HRT.out 4 _ rfl
  have e5 := row_cellT HRT.out 5 _ rfl
  cases ni
  · skip
    have HV : Hid (res = false) := by show _ = _; rw [HRS.out]; simp
    go_wp2_with fail
    go_ret
    exact ⟨by rw [HV.out]; rfl, HG.out⟩
  by_cases hnv : nv = (l.length : Int)
  rotate_left
  · have hbx : (nv != (l.length : Int)) = true := by simpa using hnv
    have HV : Hid (res = false) := by show _ = _; rw [HRS.out]; simp [hnv]
    go_wp2_with fail
    go_ret
    exact ⟨by rw [HV.out]; rfl, HG.out⟩
  have hbx : (nv != (l.length : Int)) = false := by simpa using hnv
  have HRS2 : Hid (res = K0) := by show _ = _; rw [HRS.out]; simp [hnv, hend]
  clear hnv
  have hel := Ft.elem_any typ
  obtain ⟨el, hel2⟩ : ∃ e, Ft.elemF typ = e := ⟨_, rfl⟩
  rw [hel2] at hel
  have HEL := Lib.hid hel
  have HEQ := Lib.hid hel2
  clear hel hel2
  obtain ⟨el1, el2, el3⟩ := el
  simp only at HEL
  have HFI : Hid (firstF typ wid at_ = at_ - wid) := by show _ = _; unfold firstF; rw [HQ.out]; simp only; rw [if_neg HN.out.1]; rfl
  have HEO : Hid (∀ i : Nat, elemOf d typ wid at_ l.length i = (el1, wid, 0)) := fun i => by unfold elemOf; rw [HQ.out, HEQ.out]; simp only; rw [HTG.out]; rfl
  go_wp2_with fail
  refine (HEL.out _).mono ?_
  rintro r u7 ⟨rfl, hgc⟩
  clear c0 c1 c2 c3
  clear e0 e1 e2 e3 e4 e5
  replace HRR := Lib.hid (hgc.heap HRR.out)
  replace HRT := Lib.hid (hgc.heap HRT.out)
  replace HG := Lib.hid (HG.out.trans hgc)
  clear hgc
  have c0 := row_cellT HRR.out 0 _ rfl
  have c1 := row_cellT HRR.out 1 _ rfl
  have c2 := row_cellT HRR.out 2 _ rfl
  have c3 := row_cellT HRR.out 3 _ rfl
  have e0 := row_cellT HRT.out 0 _ rfl
  have e1 := row_cellT HRT.out 1 _ rfl
  have e2 := row_cellT HRT.out 2 _ rfl
  have e3 := row_cellT HRT.out 3 _ rfl
  have e4 := row_cellT HRT.out 4 _ rfl
  have e5 := row_cellT HRT.out 5 _ rfl
  have HEND : Hid (at_ + (l.length : Int) * wid ≤ d.length) := hend
  go_upto_region 27 with fail
  go_wp2_with fail
  clear c0 c1 c2 c3
  clear e0 e1 e2 e3 e4 e5
  go_loopw [136] (fun i wr => ∃ kk : Nat, kk ≤ l.length ∧ i = .int .i64 kk ∧ Hid (Grew u7 wr ∧ K0 = kidsF d typ wid at_ l.length kk (l.drop kk))) (fun i _ => l.length - (intOf i).toNat)
  case atStart => exact ⟨0, Nat.zero_le _, rfl, by show _ ∧ _; exact ⟨Grew.refl _, by rw [List.drop_zero]; exact HK0.out.symm⟩⟩
  case round =>
    obtain ⟨kk, hkk, rfl, HL⟩ := hrel
    have HGW := Lib.hid (HG.out.trans HL.out.1)
    by_cases hlt : kk < l.length
    rotate_left
    · have ek : kk = l.length := by omega
      have HV : Hid (res = true) := by show _ = _; rw [HRS2.out, HL.out.2, ek, List.drop_length]; rfl
      subst ek
      clear hlt
      go_wp2_with fail
      go_ret
      exact ⟨by rw [HV.out]; rfl, HGW.out⟩
    obtain ⟨x, hx⟩ : ∃ x, l[kk]? = some x := ⟨_, List.getElem?_eq_getElem hlt⟩
    obtain ⟨xv, hxv, hnx⟩ := HKD.out.get hx
    have hxm : x ∈ l := List.mem_of_getElem? hx
    have HDR : Hid (l.drop kk = x :: l.drop (kk + 1)) := by show _ = _; rw [List.drop_eq_getElem_cons hlt]; congr 1; rw [List.getElem?_eq_getElem hlt] at hx; injection hx
    obtain ⟨b, off, rfl, hc6⟩ : ∃ b off, a5 = some ⟨b, off, none⟩ ∧ Cells6 wr b (off + kk * 6) xv := by
      obtain ⟨a, c, e, _, _, _, h⟩ := HRL.out
      injection e with e1 e2 e3
      subst e1
      obtain ⟨b, off, e, h6⟩ := h kk xv hxv
      exact ⟨b, off, e, h6.grew HGW.out⟩
    obtain ⟨xk, xn, xu, xs, xa4, xn4, xc4, xa5, xn5, xc5, rfl⟩ := hnx.node6
    obtain ⟨f0, f1, f2, f3, f4, f5⟩ := hc6.get
    have HNX := Lib.hid (hnx.grew HGW.out)
    have hlti : (kk : Int) < l.length := by omega
    have hkw : 0 ≤ (kk : Int) * wid ∧ (kk : Int) * wid ≤ 32768 := by
      refine ⟨Int.mul_nonneg (by omega) (by omega), ?_⟩
      have h1 := Int.mul_le_mul (show (kk : Int) ≤ 4096 by omega) hw1.2 (by omega) (by omega)
      omega
    have hwk : IntKind.i64.wrap ((kk : Int) * wid) = (kk : Int) * wid := by rw [IntKind.wrap_i64]; omega
    have hwk2 : IntKind.i64.wrap (at_ + (kk : Int) * wid) = at_ + (kk : Int) * wid := by rw [IntKind.wrap_i64]; omega
    have HSX := Lib.hid (HHK.out x hxm)
    clear hc6 hx hxv hnx hxm
    have hga := ((Grew.refl wr).alloc (.cells #[.int .i64 xk, .int .i64 xn, .int .u64 xu, .string xs, .slice xa4 xn4 xc4, .slice xa5 xn5 xc5] 27)).alloc (.cells #[.int .i64 (at_ + (kk : Int) * wid), .int .i64 wid, .int .i64 el1, .int .i64 wid] 35)
    have hsay := HSX.out el1 (.inr (.inr (by rw [HEQ.out]))) (.slice da d.length dc) (at_ + (kk : Int) * wid) wid wid (at_ - wid) _ _ (HD.out.grew (HGW.out.trans hga)) (HNX.out.grew hga) (by unfold i64ok; omega)
    obtain ⟨sB, hsB⟩ : ∃ b, saysF d el1 (at_ + (kk : Int) * wid) wid wid (at_ - wid) x = b := ⟨_, rfl⟩
    rw [hsB] at hsay
    have HKX : Hid (K0 = (sB && kidsF d typ wid at_ l.length (kk + 1) (l.drop (kk + 1)))) := by show _ = _; rw [HL.out.2, HDR.out, kidsF, HEO.out]; simp only; rw [HFI.out, hsB]; rfl
    have HSAY := Lib.hid hsay
    have HGA := Lib.hid hga
    clear hsay hsB hga
    go_wp2_with fail
    refine HSAY.out.mono ?_
    rintro r y5 ⟨rfl, hg6⟩
    have HG6 := Lib.hid (HGA.out.trans hg6)
    clear hg6 f0 f1 f2 f3 f4 f5
    cases sB
    · have HV : Hid (res = false) := by show _ = _; rw [HRS2.out, HKX.out]; rfl
      have HGF := Lib.hid (HGW.out.trans HG6.out)
      go_wp2_with fail
      go_ret
      exact ⟨by rw [HV.out]; rfl, HGF.out⟩
    · go_wp2_with fail
      go_roundw
      case rel => exact ⟨kk + 1, by omega, by go_num, by
        show _ ∧ _
        exact ⟨HL.out.1.trans HG6.out, by rw [HKX.out]; rfl⟩⟩
      case measure => simp [intOf]; omega
end Go.Proofs.Ytlhliolknaopjaa

/-
  Denote: list at a fixed vector, where says and keys are given. Conditions: the bytes, the tree lie in memory; the tree is small.
-/
namespace Go.Proofs.Ytlhliolknaopjaa
open Go Go.ChangeShapes Go.WideShapes Go.ChangeAt Go.RowKit Go.Joins Go.Deep
set_option linter.unusedVariables false
set_option linter.unusedSimpArgs false

set_option maxRecDepth 100000 in
set_option maxHeartbeats 4000000 in
theorem list_walkD (d : List UInt8) (typ k n u : Int) (s : ByteArray) (keys : List ByteArray) (l : List Tr) (hl : l.length ≤ 4096) (hkl4 : keys.length ≤ 4096) (hkids : ∀ x ∈ l, ∀ typ', ((shapeF typ).1 = 10 ∨ (shapeF typ).1 = 17 ∨ typ' = (Ft.elemF typ).1) → SaysOn d typ' x) (hkeys : (shapeF typ).1 = 17 → KeysOn d keys) (hcase : (¬ (shapeF typ).1 = 17 ∧ ¬ (shapeF typ).1 = 10) ∧ ¬ (shapeF typ).2 = 0) : ListOn d typ (.mk k n u s keys l) := by
  intro dv pos par wid at_ tv w hD hn ha hw
  simp only [NodeAt] at hn
  obtain ⟨hb, kv, lv, vs, rfl, hks, hrl, hkd⟩ := hn
  have hkl := hkd.length
  have HD := Lib.hid hD
  have HKS := Lib.hid hks
  have HB := Lib.hid hb
  have hdl := hD.2.1
  obtain ⟨da, dc, rfl, hdc⟩ := hD.form
  obtain ⟨a4, c4, rfl, hk1, hk2, hk3⟩ := hks
  have HRL := Lib.hid hrl
  obtain ⟨a5, c5, rfl, hl1, hl2, hl3, hl4⟩ := hrl
  rw [hkl] at HRL hl1 ⊢
  have HKD := Lib.hid hkd
  have HHK := Lib.hid hkids
  have HKY := Lib.hid hkeys
  have HW := Lib.hid hw
  have hlc : (l.length : Int) ≤ c5 := by omega
  clear hD hb hk1 hk2 hk3 hl2 hl3 hl4 hkd hkl hkids hkeys hl1
  have hw1 : 1 ≤ wid ∧ wid ≤ 8 := by rcases isW_cases hw with rfl | rfl | rfl | rfl <;> omega
  have hnw : 0 ≤ (l.length : Int) * wid ∧ (l.length : Int) * wid ≤ 32768 := by
    refine ⟨Int.mul_nonneg (by omega) (by omega), ?_⟩
    have h1 := Int.mul_le_mul (show (l.length : Int) ≤ 4096 by omega) hw1.2 (by omega) (by omega)
    omega
  have HSR := Lib.hid (shape_range typ)
  obtain ⟨q, hq⟩ : ∃ q, shapeF typ = q := ⟨_, rfl⟩
  rw [hq] at HSR
  have hshp := shape_any typ
  rw [hq] at hshp
  have HSP := Lib.hid hshp
  clear hshp
  obtain ⟨kd, many⟩ := q
  simp only at HSR HSP
  obtain ⟨res, hres⟩ : ∃ b, listF d typ wid at_ (.mk k n u s keys l) = b := ⟨_, rfl⟩
  rw [hres]
  have HRES := Lib.hid hres
  clear hres
  rw [list_form hq] at HRES
  obtain ⟨⟨h17, h10⟩, hm⟩ : (¬ kd = 17 ∧ ¬ kd = 10) ∧ ¬ many = 0 := by rw [hq] at hcase; exact hcase
  clear hcase
  have HQ := Lib.hid hq
  clear hq
  have HG := Lib.hid (Grew.refl w)
  go_enter Try.func47, Try.ntmps47
  go_upto_region 1 with fail
  obtain ⟨pr, hpr⟩ : ∃ N, w.heap.size = N := ⟨_, rfl⟩
  have HPR := Lib.hid hpr
  have hr1 := heap_alloc_new w (.cells #[.int .i64 pos, .int .i64 par, .int .i64 typ, .int .i64 wid] 35)
  have hga := (Grew.refl w).alloc (.cells #[.int .i64 pos, .int .i64 par, .int .i64 typ, .int .i64 wid] 35)
  have hz1 : (w.alloc (.cells #[.int .i64 pos, .int .i64 par, .int .i64 typ, .int .i64 wid] 35)).heap.size = pr + 1 := by rw [World.size_alloc, hpr]
  generalize (w.alloc (.cells #[.int .i64 pos, .int .i64 par, .int .i64 typ, .int .i64 wid] 35)) = x1 at *
  rw [hpr] at hr1 ⊢
  have hr2 := heap_alloc_new x1 (.cells #[.int .i64 k, .int .i64 n, .int .u64 u, .string s, .slice a4 keys.length c4, .slice a5 l.length c5] 27)
  have hgb := (Grew.refl x1).alloc (.cells #[.int .i64 k, .int .i64 n, .int .u64 u, .string s, .slice a4 keys.length c4, .slice a5 l.length c5] 27)
  generalize (x1.alloc (.cells #[.int .i64 k, .int .i64 n, .int .u64 u, .string s, .slice a4 keys.length c4, .slice a5 l.length c5] 27)) = x2 at *
  rw [hz1] at hr2
  try rw [hz1]
  have HRR := Lib.hid (hgb.heap hr1)
  have HRT := Lib.hid hr2
  replace HG := Lib.hid (hga.trans hgb)
  clear hr1 hr2 hz1 hpr hga hgb
  have c0 := row_cellT HRR.out 0 _ rfl
  have c1 := row_cellT HRR.out 1 _ rfl
  have c2 := row_cellT HRR.out 2 _ rfl
  have c3 := row_cellT HRR.out 3 _ rfl
  have e0 := row_cellT HRT.out 0 _ rfl
  have e1 := row_cellT HRT.out 1 _ rfl
  have e2 := row_cellT HRT.out 2 _ rfl
  have e3 := row_cellT HRT.out 3 _ rfl
  have e4 := row_cellT HRT.out 4 _ rfl
  have e5 := row_cellT HRT.out 5 _ rfl
  go_quiet (fail)
  have hgc := (Grew.refl x2).drewN nq
  obtain ⟨x3, hx3⟩ : ∃ x3, x2.drewN nq = x3 := ⟨_, rfl⟩
  rw [hx3] at hgc ⊢
  clear hx3
  clear c0 c1 c2 c3
  clear e0 e1 e2 e3 e4 e5
  replace HRR := Lib.hid (hgc.heap HRR.out)
  replace HRT := Lib.hid (hgc.heap HRT.out)
  replace HG := Lib.hid (HG.out.trans hgc)
  clear hgc
  have c0 := row_cellT HRR.out 0 _ rfl
  have c1 := row_cellT HRR.out 1 _ rfl
  have c2 := row_cellT HRR.out 2 _ rfl
  have c3 := row_cellT HRR.out 3 _ rfl
  have e0 := row_cellT HRT.out 0 _ rfl
  have e1 := row_cellT HRT.out 1 _ rfl
  have e2 := row_cellT HRT.out 2 _ rfl
  have e3 := row_cellT HRT.out 3 _ rfl
  have e4 := row_cellT HRT.out 4 _ rfl
  have e5 := row_cellT HRT.out 5 _ rfl
  go_wp2_with fail
  refine (HSP.out x3).mono ?_
  rintro r u1 ⟨rfl, hgc⟩
  clear c0 c1 c2 c3
  clear e0 e1 e2 e3 e4 e5
  replace HRR := Lib.hid (hgc.heap HRR.out)
  replace HRT := Lib.hid (hgc.heap HRT.out)
  replace HG := Lib.hid (HG.out.trans hgc)
  clear hgc
  have c0 := row_cellT HRR.out 0 _ rfl
  have c1 := row_cellT HRR.out 1 _ rfl
  have c2 := row_cellT HRR.out 2 _ rfl
  have c3 := row_cellT HRR.out 3 _ rfl
  have e0 := row_cellT HRT.out 0 _ rfl
  have e1 := row_cellT HRT.out 1 _ rfl
  have e2 := row_cellT HRT.out 2 _ rfl
  have e3 := row_cellT HRT.out 3 _ rfl
  have e4 := row_cellT HRT.out 4 _ rfl
  have e5 := row_cellT HRT.out 5 _ rfl
  have hws : IntKind.i64.wrap ((l.length : Int) * wid) = (l.length : Int) * wid := by rw [IntKind.wrap_i64]; omega
  have hwe : IntKind.i64.wrap (at_ + (l.length : Int) * wid) = at_ + (l.length : Int) * wid := by rw [IntKind.wrap_i64]; omega
  have hwt : IntKind.i64.wrap (at_ + (l.length : Int) * wid + l.length) = at_ + (l.length : Int) * wid + l.length := by rw [IntKind.wrap_i64]; omega
  have hwf : IntKind.i64.wrap (at_ - wid) = at_ - wid := by rw [IntKind.wrap_i64]; omega
  have hw3 : IntKind.i64.wrap (3 * wid) = 3 * wid := by rw [IntKind.wrap_i64]; omega
  have hwm3 : IntKind.i64.wrap (at_ - 3 * wid) = at_ - 3 * wid := by rw [IntKind.wrap_i64]; omega
  have ht : Int.tmod at_ wid = at_ % wid := Int.tmod_eq_emod_of_nonneg ha.1
  have hwz : (wid == 0) = false := by rw [beq_eq_false_iff_ne]; omega
  have hm0 : 0 ≤ at_ % wid ∧ at_ % wid < 8 := ⟨Int.emod_nonneg _ (by omega), Int.lt_of_lt_of_le (Int.emod_lt_of_pos _ (by omega)) hw1.2⟩
  have hwm : IntKind.i64.wrap (at_ % wid) = at_ % wid := by rw [IntKind.wrap_i64]; omega
  obtain ⟨md, hmd⟩ : ∃ q, at_ % wid = q := ⟨_, rfl⟩
  rw [hmd] at ht hwm hm0 HRES
  clear hmd
  obtain ⟨K0, hK0⟩ : ∃ b, kidsF d typ wid at_ l.length 0 l = b := ⟨_, rfl⟩
  rw [hK0] at HRES
  have HK0 := Lib.hid hK0
  clear hK0
  have hb17 : (kd == 17) = false := by simpa using h17
  have hb10 : (kd == 10) = false := by simpa using h10
  have HN := Lib.hid (And.intro h17 h10)
  have hmp : 0 < many := by have := HSR.out; omega
  have hbm : (many == 0) = false := by simpa using hm
  have hmle : many ≤ 4 := by have := HSR.out; omega
  have HMN := Lib.hid hm
  clear h17 h10 hm
  have htg : taggedB kd = false := by unfold taggedB; rw [decide_eq_false HN.out.1, decide_eq_false HN.out.2]; rfl
  have HTG := Lib.hid htg
  clear htg
  go_upto_region 8 with fail
  have hrp := heap_alloc_new u1 (.cells #[.int .i64 k, .int .i64 n, .int .u64 u, .string s, .slice a4 keys.length c4, .slice none 0 0] 27)
  have hgc := (Grew.refl u1).alloc (.cells #[.int .i64 k, .int .i64 n, .int .u64 u, .string s, .slice a4 keys.length c4, .slice none 0 0] 27)
  obtain ⟨pp, hpp⟩ : ∃ N, u1.heap.size = N := ⟨_, rfl⟩
  generalize (u1.alloc (.cells #[.int .i64 k, .int .i64 n, .int .u64 u, .string s, .slice a4 keys.length c4, .slice none 0 0] 27)) = u3 at *
  rw [hpp] at hrp ⊢
  have HRP := Lib.hid hrp
  clear hrp hpp
  clear c0 c1 c2 c3
  clear e0 e1 e2 e3 e4 e5
  replace HRR := Lib.hid (hgc.heap HRR.out)
  replace HRT := Lib.hid (hgc.heap HRT.out)
  replace HG := Lib.hid (HG.out.trans hgc)
  clear hgc
  have c0 := row_cellT HRR.out 0 _ rfl
  have c1 := row_cellT HRR.out 1 _ rfl
  have c2 := row_cellT HRR.out 2 _ rfl
  have c3 := row_cellT HRR.out 3 _ rfl
  have e0 := row_cellT HRT.out 0 _ rfl
  have e1 := row_cellT HRT.out 1 _ rfl
  have e2 := row_cellT HRT.out 2 _ rfl
  have e3 := row_cellT HRT.out 3 _ rfl
  have e4 := row_cellT HRT.out 4 _ rfl
  have e5 := row_cellT HRT.out 5 _ rfl
  have p0 := row_cellT HRP.out 0 _ rfl
  have p1 := row_cellT HRP.out 1 _ rfl
  have p2 := row_cellT HRP.out 2 _ rfl
  have p3 := row_cellT HRP.out 3 _ rfl
  have p4 := row_cellT HRP.out 4 _ rfl
  have p5 := row_cellT HRP.out 5 _ rfl
  obtain ⟨b0, hb0⟩ : ∃ b, bareF (.mk k n u s keys []) kd 0 0 EMB = b := ⟨_, rfl⟩
  have HB0 := Lib.hid hb0
  clear hb0
  have HRS : Hid (res = (b0 && decide (md = 0) && decide (at_ + (l.length : Int) * wid + 0 ≤ d.length) && decide ((l.length : Int) = many) && true && K0)) := by show _ = _; rw [← HRES.out, ← HB0.out, if_neg HN.out.1, if_neg HN.out.1, HTG.out, if_neg HMN.out]; rfl
  have hnp : NodeAt u3 (.mk k n u s keys []) (.agg #[.int .i64 k, .int .i64 n, .int .u64 u, .string s, .slice a4 keys.length c4, .slice none 0 0]) := ⟨HB.out, _, _, [], rfl, HKS.out.grew HG.out, RowsAt.nil _, rfl⟩
  have hh := bare_any _ _ kd 0 0 ⟨#[]⟩ _ hnp
  rw [show bareF (.mk k n u s keys []) kd 0 0 ⟨#[]⟩ = b0 from HB0.out] at hh
  have HH := Lib.hid hh
  clear hh hnp
  go_wp2_with fail
  refine HH.out.mono ?_
  rintro r u4 ⟨rfl, hgc⟩
  clear c0 c1 c2 c3
  clear e0 e1 e2 e3 e4 e5
  clear p0 p1 p2 p3 p4 p5
  replace HRR := Lib.hid (hgc.heap HRR.out)
  replace HRT := Lib.hid (hgc.heap HRT.out)
  replace HG := Lib.hid (HG.out.trans hgc)
  clear hgc
  have c0 := row_cellT HRR.out 0 _ rfl
  have c1 := row_cellT HRR.out 1 _ rfl
  have c2 := row_cellT HRR.out 2 _ rfl
  have c3 := row_cellT HRR.out 3 _ rfl
  have e0 := row_cellT HRT.out 0 _ rfl
  have e1 := row_cellT HRT.out 1 _ rfl
  have e2 := row_cellT HRT.out 2 _ rfl
  have e3 := row_cellT HRT.out 3 _ rfl
  have e4 := row_cellT HRT.out 4 _ rfl
  have e5 := row_cellT HRT.out 5 _ rfl
  cases b0
  · skip
    have HV : Hid (res = false) := by show _ = _; rw [HRS.out]; simp
    go_wp2_with fail
    go_ret
    exact ⟨by rw [HV.out]; rfl, HG.out⟩
  by_cases hmd0 : md = 0
  rotate_left
  · have hbx : (md != 0) = true := by simpa using hmd0
    have HV : Hid (res = false) := by show _ = _; rw [HRS.out]; simp [hmd0]
    go_wp2_with fail
    go_ret
    exact ⟨by rw [HV.out]; rfl, HG.out⟩
  subst hmd0
  by_cases hend : at_ + (l.length : Int) * wid ≤ d.length
  rotate_left
  · have hgt : (d.length : Int) < at_ + (l.length : Int) * wid := by omega
    have HV : Hid (res = false) := by show _ = _; rw [HRS.out]; simp [hend]
    go_wp2_with fail
    go_ret
    exact ⟨by rw [HV.out]; rfl, HG.out⟩
  by_cases hnm : (l.length : Int) = many
  rotate_left
  · have hbx : ((l.length : Int) != many) = true := by simpa using hnm
    have HV : Hid (res = false) := by show _ = _; rw [HRS.out]; simp [hnm]
    go_wp2_with fail
    go_ret
    exact ⟨by rw [HV.out]; rfl, HG.out⟩
  have hbx : ((l.length : Int) != many) = false := by simpa using hnm
  have HRS2 : Hid (res = K0) := by show _ = _; rw [HRS.out, decide_eq_true hnm]; simp [hend]
  clear hnm
  have hel := Ft.elem_any typ
  obtain ⟨el, hel2⟩ : ∃ e, Ft.elemF typ = e := ⟨_, rfl⟩
  rw [hel2] at hel
  have HEL := Lib.hid hel
  have HEQ := Lib.hid hel2
  clear hel hel2
  obtain ⟨el1, el2, el3⟩ := el
  simp only at HEL
  have HFI : Hid (firstF typ wid at_ = at_) := by show _ = _; unfold firstF; rw [HQ.out]; simp only; rw [if_neg HN.out.1, if_neg HMN.out]
  have HEO : Hid (∀ i : Nat, elemOf d typ wid at_ l.length i = (el1, wid, 0)) := fun i => by unfold elemOf; rw [HQ.out, HEQ.out]; simp only; rw [HTG.out]; rfl
  go_wp2_with fail
  refine (HEL.out _).mono ?_
  rintro r u7 ⟨rfl, hgc⟩
  clear c0 c1 c2 c3
  clear e0 e1 e2 e3 e4 e5
  replace HRR := Lib.hid (hgc.heap HRR.out)
  replace HRT := Lib.hid (hgc.heap HRT.out)
  replace HG := Lib.hid (HG.out.trans hgc)
  clear hgc
  have c0 := row_cellT HRR.out 0 _ rfl
  have c1 := row_cellT HRR.out 1 _ rfl
  have c2 := row_cellT HRR.out 2 _ rfl
  have c3 := row_cellT HRR.out 3 _ rfl
  have e0 := row_cellT HRT.out 0 _ rfl
  have e1 := row_cellT HRT.out 1 _ rfl
  have e2 := row_cellT HRT.out 2 _ rfl
  have e3 := row_cellT HRT.out 3 _ rfl
  have e4 := row_cellT HRT.out 4 _ rfl
  have e5 := row_cellT HRT.out 5 _ rfl
  have HEND : Hid (at_ + (l.length : Int) * wid ≤ d.length) := hend
  go_upto_region 27 with fail
  go_wp2_with fail
  clear c0 c1 c2 c3
  clear e0 e1 e2 e3 e4 e5
  go_loopw [136] (fun i wr => ∃ kk : Nat, kk ≤ l.length ∧ i = .int .i64 kk ∧ Hid (Grew u7 wr ∧ K0 = kidsF d typ wid at_ l.length kk (l.drop kk))) (fun i _ => l.length - (intOf i).toNat)
  case atStart => exact ⟨0, Nat.zero_le _, rfl, by show _ ∧ _; exact ⟨Grew.refl _, by rw [List.drop_zero]; exact HK0.out.symm⟩⟩
  case round =>
    obtain ⟨kk, hkk, rfl, HL⟩ := hrel
    have HGW := Lib.hid (HG.out.trans HL.out.1)
    by_cases hlt : kk < l.length
    rotate_left
    · have ek : kk = l.length := by omega
      have HV : Hid (res = true) := by show _ = _; rw [HRS2.out, HL.out.2, ek, List.drop_length]; rfl
      subst ek
      clear hlt
      go_wp2_with fail
      go_ret
      exact ⟨by rw [HV.out]; rfl, HGW.out⟩
    obtain ⟨x, hx⟩ : ∃ x, l[kk]? = some x := ⟨_, List.getElem?_eq_getElem hlt⟩
    obtain ⟨xv, hxv, hnx⟩ := HKD.out.get hx
    have hxm : x ∈ l := List.mem_of_getElem? hx
    have HDR : Hid (l.drop kk = x :: l.drop (kk + 1)) := by show _ = _; rw [List.drop_eq_getElem_cons hlt]; congr 1; rw [List.getElem?_eq_getElem hlt] at hx; injection hx
    obtain ⟨b, off, rfl, hc6⟩ : ∃ b off, a5 = some ⟨b, off, none⟩ ∧ Cells6 wr b (off + kk * 6) xv := by
      obtain ⟨a, c, e, _, _, _, h⟩ := HRL.out
      injection e with e1 e2 e3
      subst e1
      obtain ⟨b, off, e, h6⟩ := h kk xv hxv
      exact ⟨b, off, e, h6.grew HGW.out⟩
    obtain ⟨xk, xn, xu, xs, xa4, xn4, xc4, xa5, xn5, xc5, rfl⟩ := hnx.node6
    obtain ⟨f0, f1, f2, f3, f4, f5⟩ := hc6.get
    have HNX := Lib.hid (hnx.grew HGW.out)
    have hlti : (kk : Int) < l.length := by omega
    have hkw : 0 ≤ (kk : Int) * wid ∧ (kk : Int) * wid ≤ 32768 := by
      refine ⟨Int.mul_nonneg (by omega) (by omega), ?_⟩
      have h1 := Int.mul_le_mul (show (kk : Int) ≤ 4096 by omega) hw1.2 (by omega) (by omega)
      omega
    have hwk : IntKind.i64.wrap ((kk : Int) * wid) = (kk : Int) * wid := by rw [IntKind.wrap_i64]; omega
    have hwk2 : IntKind.i64.wrap (at_ + (kk : Int) * wid) = at_ + (kk : Int) * wid := by rw [IntKind.wrap_i64]; omega
    have HSX := Lib.hid (HHK.out x hxm)
    clear hc6 hx hxv hnx hxm
    have hga := ((Grew.refl wr).alloc (.cells #[.int .i64 xk, .int .i64 xn, .int .u64 xu, .string xs, .slice xa4 xn4 xc4, .slice xa5 xn5 xc5] 27)).alloc (.cells #[.int .i64 (at_ + (kk : Int) * wid), .int .i64 wid, .int .i64 el1, .int .i64 wid] 35)
    have hsay := HSX.out el1 (.inr (.inr (by rw [HEQ.out]))) (.slice da d.length dc) (at_ + (kk : Int) * wid) wid wid (at_) _ _ (HD.out.grew (HGW.out.trans hga)) (HNX.out.grew hga) (by unfold i64ok; omega)
    obtain ⟨sB, hsB⟩ : ∃ b, saysF d el1 (at_ + (kk : Int) * wid) wid wid (at_) x = b := ⟨_, rfl⟩
    rw [hsB] at hsay
    have HKX : Hid (K0 = (sB && kidsF d typ wid at_ l.length (kk + 1) (l.drop (kk + 1)))) := by show _ = _; rw [HL.out.2, HDR.out, kidsF, HEO.out]; simp only; rw [HFI.out, hsB]; rfl
    have HSAY := Lib.hid hsay
    have HGA := Lib.hid hga
    clear hsay hsB hga
    go_wp2_with fail
    refine HSAY.out.mono ?_
    rintro r y5 ⟨rfl, hg6⟩
    have HG6 := Lib.hid (HGA.out.trans hg6)
    clear hg6 f0 f1 f2 f3 f4 f5
    cases sB
    · have HV : Hid (res = false) := by show _ = _; rw [HRS2.out, HKX.out]; rfl
      have HGF := Lib.hid (HGW.out.trans HG6.out)
      go_wp2_with fail
      go_ret
      exact ⟨by rw [HV.out]; rfl, HGF.out⟩
    · go_wp2_with fail
      go_roundw
      case rel => exact ⟨kk + 1, by omega, by go_num, by
        show _ ∧ _
        exact ⟨HL.out.1.trans HG6.out, by rw [HKX.out]; rfl⟩⟩
      case measure => simp [intOf]; omega
end Go.Proofs.Ytlhliolknaopjaa

/-
  Denote: list, where says and keys are given. Conditions: the bytes, the tree lie in memory; the tree is small.
-/
namespace Go.Proofs.Ytlhliolknaopjaa
open Go Go.ChangeShapes Go.WideShapes Go.ChangeAt Go.RowKit Go.Joins Go.Deep
set_option linter.unusedVariables false
set_option linter.unusedSimpArgs false

theorem list_walk (d : List UInt8) (typ k n u : Int) (s : ByteArray) (keys : List ByteArray) (l : List Tr) (hl : l.length ≤ 4096) (hkl4 : keys.length ≤ 4096) (hkids : ∀ x ∈ l, ∀ typ', ((shapeF typ).1 = 10 ∨ (shapeF typ).1 = 17 ∨ typ' = (Ft.elemF typ).1) → SaysOn d typ' x) (hkeys : (shapeF typ).1 = 17 → KeysOn d keys) : ListOn d typ (.mk k n u s keys l) := by
  by_cases h17 : (shapeF typ).1 = 17
  · exact list_walkA d typ k n u s keys l hl hkl4 hkids hkeys h17
  by_cases h10 : (shapeF typ).1 = 10
  · exact list_walkB d typ k n u s keys l hl hkl4 hkids hkeys h10
  by_cases hm : (shapeF typ).2 = 0
  · exact list_walkC d typ k n u s keys l hl hkl4 hkids hkeys ⟨⟨h17, h10⟩, hm⟩
  · exact list_walkD d typ k n u s keys l hl hkl4 hkids hkeys ⟨⟨h17, h10⟩, hm⟩
end Go.Proofs.Ytlhliolknaopjaa

/-
  Denote: keys, and the whole. Conditions: the bytes, the tree lie in memory; the tree is small.
-/
namespace Go.Proofs.Ytlhliolknaopjaa
open Go Go.ChangeShapes Go.WideShapes Go.ChangeAt Go.RowKit Go.Joins Go.Deep
set_option linter.unusedVariables false
set_option linter.unusedSimpArgs false

def keyTr (k : ByteArray) : Tr := .mk 5 0 0 k [] []
def nameTr (l : List ByteArray) : Tr := .mk 13 0 0 ⟨#[]⟩ [] (l.map keyTr)
theorem shape14 : shapeF 14 = (13, 0) := by decide +kernel
theorem elem14 : (Ft.elemF 14).1 = 4 := by decide +kernel
theorem kids_names (d : List UInt8) (w at_ n : Int) (hw : isW w = true) : ∀ (l : List ByteArray) (i : Nat), kidsF d 14 w at_ n i (l.map keyTr) = nameKids d w at_ i l
  | [], i => rfl
  | k :: r, i => by
    have he : elemOf d 14 w at_ n i = (4, w, 0) := by unfold elemOf; rw [shape14, elem14]; rfl
    have hf : firstF 14 w at_ = at_ - w := by unfold firstF; rw [shape14]; rfl
    simp only [List.map_cons, kidsF, nameKids]
    rw [he, hf, kids_names d w at_ n hw r (i + 1)]
    simp only
    have hs : saysF d 4 (at_ + i * w) w w (at_ - w) (keyTr k) = keySays d (at_ + i * w) w (at_ - w) k := by
      unfold keyTr
      rw [says_eq, hw]
      have h1 : Ft.legalB 4 = true := by decide +kernel
      have h2 : Ft.inlineB 4 = false := by decide +kernel
      have h3 : farT 4 = true := by decide
      rw [h1, h2, h3]
      unfold keySays lookF keyF bareF
      simp only [Tr.kind, Tr.fn, Tr.fu, Tr.fs, Tr.keys, Tr.kids]
      cases hf : farB d 4 (at_ + i * w) w w (at_ - w) <;> simp [EMB] <;> (try rfl)
    rw [hs]; simp
theorem names_list (d : List UInt8) (w at_ : Int) (l : List ByteArray) (hw : isW w = true) : listF d 14 w at_ (nameTr l) = namesF d w at_ l := by
  unfold nameTr
  rw [list_form shape14]
  unfold namesF bareF
  simp only [Tr.kind, Tr.fn, Tr.fu, Tr.fs, Tr.keys, Tr.kids, List.length_map]
  rw [kids_names d w at_ _ hw]
  simp [taggedB, EMB, Bool.and_assoc]
theorem inc_take (l : List ByteArray) (j : Nat) (a b : ByteArray) (ha : l[j]? = some a) (hb : l[j + 1]? = some b) (hlt : ltS a b = false) : incB l = false := by
  induction l generalizing j with
  | nil => simp at ha
  | cons x r ih =>
    cases r with
    | nil => simp at hb
    | cons y q =>
      cases j with
      | zero => simp at ha hb; subst ha hb; simp [incB, hlt]
      | succ j => simp only [incB]; rw [ih j (by simpa using ha) (by simpa using hb)]; simp
theorem inc_all (l : List ByteArray) (h : ∀ j a b, l[j]? = some a → l[j + 1]? = some b → ltS a b = true) : incB l = true := by
  induction l with
  | nil => rfl
  | cons x r ih =>
    cases r with
    | nil => rfl
    | cons y q =>
      simp only [incB]
      rw [h 0 x y rfl rfl, ih fun j a b ha hb => h (j + 1) a b (by simpa using ha) (by simpa using hb)]; rfl
set_option maxRecDepth 100000 in
set_option maxHeartbeats 4000000 in
theorem keys_walk (d : List UInt8) (l : List ByteArray) (hl : l.length ≤ 4096) (hlist : ListOn d 14 (nameTr l)) : KeysOn d l := by
  intro dv first x kv w hD hks hf hw
  have HD := Lib.hid hD
  have HKS := Lib.hid hks
  have hdl := hD.2.1
  obtain ⟨da, dc, rfl, hdc⟩ := hD.form
  obtain ⟨a4, c4, rfl, hk1, hk2, hk3⟩ := hks
  have HW := Lib.hid hw
  clear hD hk1 hk2 hk3
  have hw1 : 1 ≤ x ∧ x ≤ 8 := by rcases isW_cases hw with rfl | rfl | rfl | rfl <;> omega
  have HG := Lib.hid (Grew.refl w)
  have hwa : IntKind.i64.wrap (first + x) = first + x := by rw [IntKind.wrap_i64]; omega
  obtain ⟨res, hres⟩ : ∃ b, keysF d first x l = b := ⟨_, rfl⟩
  rw [hres]
  have HRES := Lib.hid hres
  clear hres
  unfold keysF at HRES
  have hn1 := dnum_any d (.slice da d.length dc) first x
  have hn2 := dnum_any d (.slice da d.length dc) (first + x) x
  have hp1 := num_bound d first x hdl
  have hp2 : 0 ≤ (numF d (first + x) x).1 ∧ (numF d (first + x) x).1 ≤ 9007199254740992 := by have := loadF_pos d (first + x) x; unfold numF; simp only; omega
  have hp3 : 0 ≤ (numF d first x).1 ∧ (numF d first x).1 ≤ 9007199254740992 := by have := loadF_pos d first x; unfold numF; simp only; omega
  generalize numF d first x = q1 at *
  generalize numF d (first + x) x = q2 at *
  obtain ⟨off, is_⟩ := q1
  obtain ⟨wide, so⟩ := q2
  simp only at hn1 hn2 hp1 hp2 hp3 HRES
  have HN1 := Lib.hid hn1
  have HN2 := Lib.hid hn2
  clear hn1 hn2 hp1
  go_enter Try.func82, Try.ntmps82
  go_wp2_with fail
  refine (HN1.out w (HD.out) (by unfold i64ok; omega)).mono ?_
  rintro r u1 ⟨rfl, hgc⟩
  replace HG := Lib.hid (HG.out.trans hgc)
  clear hgc
  go_wp2_with fail
  refine (HN2.out u1 (HD.out.grew HG.out) (by unfold i64ok; omega)).mono ?_
  rintro r u2 ⟨rfl, hgc⟩
  replace HG := Lib.hid (HG.out.trans hgc)
  clear hgc
  go_wp2_with fail
  refine (code_any wide u2).mono ?_
  rintro r w1 ⟨⟨cw, rfl⟩, e⟩
  rw [e]
  clear e w1
  cases is_
  · skip
    have HV : Hid (res = false) := by show _ = _; rw [← HRES.out]; simp
    go_wp2_with fail
    go_ret
    exact ⟨by rw [HV.out]; rfl, HG.out⟩
  cases so
  · skip
    have HV : Hid (res = false) := by show _ = _; rw [← HRES.out]; simp
    go_wp2_with fail
    go_ret
    exact ⟨by rw [HV.out]; rfl, HG.out⟩
  by_cases hww : isW wide = true
  rotate_left
  · have hce : (codeE wide != 0) = true := by unfold codeE; rw [if_neg hww]; decide
    have HV : Hid (res = false) := by show _ = _; rw [← HRES.out]; simp [hww]
    go_wp2_with fail
    go_ret
    exact ⟨by rw [HV.out]; rfl, HG.out⟩
  have hce : codeE wide = 0 := by unfold codeE; rw [if_pos hww]
  rw [hce]
  clear hce
  by_cases hle : off ≤ first
  rotate_left
  · have hgt : first < off := by omega
    have HV : Hid (res = false) := by show _ = _; rw [← HRES.out]; simp [hle]
    go_wp2_with fail
    go_ret
    exact ⟨by rw [HV.out]; rfl, HG.out⟩
  have hwb : IntKind.i64.wrap (first - off) = first - off := by rw [IntKind.wrap_i64]; omega
  have hwc : IntKind.i64.wrap (first - off - wide) = first - off - wide := by rw [IntKind.wrap_i64]; omega
  by_cases hlt : first - off - wide < first
  rotate_left
  · have hge : first ≤ first - off - wide := by omega
    have HV : Hid (res = false) := by show _ = _; rw [← HRES.out]; simp [show ¬ first - off - wide < first from hlt]
    go_wp2_with fail
    go_ret
    exact ⟨by rw [HV.out]; rfl, HG.out⟩
  have HRS : Hid (res = (incB l && namesF d wide (first - off) l)) := by show _ = _; rw [← HRES.out, hww, decide_eq_true hle, decide_eq_true hlt]; simp
  have HWW := Lib.hid hww
  have HAT : Hid (0 ≤ first - off ∧ first - off ≤ 1048576) := ⟨by omega, by omega⟩
  have hnge : ¬ first ≤ first - off - wide := by omega
  have hdge : decide (first ≤ first - off - wide) = false := decide_eq_false hnge
  clear hww
  go_wp2_with fail
  go_loopw [16, 69] (fun v i wr => ∃ kk : Nat, kk ≤ l.length ∧ i = .int .i64 kk ∧ Hid (Grow (fun _ => False) u2 wr v ((l.take kk).map keyTr) ∧ ∀ j a b, j + 1 < kk → l[j]? = some a → l[j + 1]? = some b → ltS a b = true)) (fun _ i _ => l.length - (intOf i).toNat)
  case atStart => exact ⟨0, Nat.zero_le _, rfl, by show _ ∧ _; exact ⟨Grow.start _ _, fun j a b h => by omega⟩⟩
  case round =>
    obtain ⟨kk, hkk, rfl, HL⟩ := hrel
    have hgw : Grew u2 wr := by obtain ⟨_, _, _, _, _, hm⟩ := HL.out.1; exact Moved.fresh (Grew.refl _) hm (fun g h => h.elim)
    have HGW := Lib.hid (HG.out.trans hgw)
    have HGU := Lib.hid hgw
    clear hgw
    obtain ⟨ga, gc, hfm, hz1, hz2, hz3⟩ := HL.out.1.form
    rw [List.length_map, List.length_take, Nat.min_eq_left hkk] at hfm hz1
    subst hfm
    by_cases hlt2 : kk < l.length
    rotate_left
    · have ek : kk = l.length := by omega
      have HINC : Hid (incB l = true) := inc_all l (fun j a b ha hb => HL.out.2 j a b (by have := (List.getElem?_eq_some_iff.1 hb).1; omega) ha hb)
      have HTR := HL.out.1
      rw [ek, List.take_length] at HTR
      subst ek
      have hnode : NodeAt wr (nameTr l) (.agg #[.int .i64 13, .int .i64 0, .int .u64 0, .string ⟨#[]⟩, .slice none 0 0, .slice ga l.length gc]) := by
        obtain ⟨vs4, S4, q1, q2, q3, q4⟩ := HTR
        exact ⟨⟨by unfold i64ok; omega, by unfold i64ok; omega, by unfold u64ok; omega, by unfold lenok; decide⟩, _, _, vs4, rfl, StrsAt.nil _, q1.rows, q2.kids⟩
      have hcall := hlist (.slice da d.length dc) 0 0 wide (first - off) _ wr (HD.out.grew HGW.out) hnode HAT.out HWW.out
      rw [names_list d wide (first - off) l HWW.out] at hcall
      obtain ⟨nb, hnb⟩ : ∃ b, namesF d wide (first - off) l = b := ⟨_, rfl⟩
      rw [hnb] at hcall
      have HV : Hid (res = nb) := by show _ = _; rw [HRS.out, HINC.out, hnb]; rfl
      have HC := Lib.hid hcall
      clear hcall hnode hnb HTR hz1 hz2 hz3 hlt2 hlt
      go_wp2_with fail
      refine HC.out.mono ?_
      rintro r u5 ⟨rfl, hg5⟩
      have HG5 := Lib.hid (HGW.out.trans hg5)
      clear hg5
      go_wp2_with fail
      go_ret
      exact ⟨by rw [HV.out]; rfl, HG5.out⟩
    obtain ⟨y, hy⟩ : ∃ y, l[kk]? = some y := ⟨_, List.getElem?_eq_getElem hlt2⟩
    obtain ⟨_, _, ee, hlc4, hlk4, _, hcell⟩ := HKS.out
    cases ee
    obtain ⟨hyz, b1, o1, e2, hc⟩ := hcell kk y hy
    subst e2
    have cy := HGW.out.cell hc
    have HY := Lib.hid hy
    have hlti : (kk : Int) < l.length := by omega
    have HTK := Lib.hid (show (l.take kk).map keyTr ++ [keyTr y] = (l.take (kk + 1)).map keyTr by rw [List.take_add_one, hy]; simp)
    by_cases hk0 : kk = 0
    · have hdg : decide (0 < kk) = false := decide_eq_false (by omega)
      have hdg2 : ¬ 0 < kk := by omega
      have hdi : ¬ (0 : Int) < (kk : Int) := by omega
      have HK0 := Lib.hid hk0
      clear hk0
      obtain ⟨vs4, S4, q1, q2, q3, q4⟩ := HL.out.1
      have HV4 : Hid (vs4.length = kk) := by show _ = _; rw [q2.length, List.length_map, List.length_take]; omega
      have HQ1 := Lib.hid q1
      have HQ2 := Lib.hid q2
      have HQ3 := Lib.hid q3
      have HQ4 := Lib.hid q4
      have HON : Hid (∀ o, OwnN (wr.alloc o) u2.heap.size (.slice ga kk gc) vs4) := fun o => q1.grew ((Grew.refl _).alloc o)
      have HSZ4 : Hid (∀ o, u2.heap.size ≤ (wr.alloc o).heap.size) := fun o => Nat.le_trans HGU.out.size ((Grew.refl wr).alloc o).size
      have HOX : Hid (OwnT wr wr.heap.size (keyTr y) (.agg #[.int .i64 5, .int .i64 0, .int .u64 0, .string y, .slice none 0 0, .slice none 0 0]) (Fresh wr wr)) := by
        refine OwnT.mono (S := fun _ => False) ?_ (fun _ h => h.elim)
        exact ⟨⟨by unfold i64ok; omega, by unfold i64ok; omega, by unfold u64ok; omega, hyz, by simp⟩, _, _, [], fun _ => False, rfl, OwnS.nil _ _, OwnN.nil _ _, fun g h => (by cases h), fun g h => (by cases h), fun g h => (by cases h), fun g h => h, rfl⟩
      clear q1 q2 q3 q4 hz1 hz2 hz3 hcell hc hy
      go_wp2_with (at_builtin; refine wpList_appendN rfl _ _ rfl u2.heap.size _ vs4 rfl (HON.out _) _ _ (.agg #[.int .i64 5, .int .i64 0, .int .u64 0, .string y, .slice none 0 0, .slice none 0 0]) rfl (heap_alloc_new _ _) ⟨_, _, _, _, _, _, _, _, _, _, rfl⟩ (by have := HV4.out; omega) (HSZ4.out _) ?_; intro v' w5 hown hgr hnx; obtain ⟨va2, vc2, hv5, hz1, hz2, hz3⟩ := rows_form hown.1; subst hv5; have HG5 := Lib.hid (Grow.step (x := keyTr y) (fun _ h => h.elim) vs4 S4 HQ2.out HQ1.out HQ3.out HQ4.out HOX.out (Moved.refl _ wr) _ hown hgr hnx); clear hown hgr hnx hz1 hz2 hz3)
      go_roundw
      case rel =>
        refine ⟨kk + 1, by omega, by go_num, ?_⟩
        show _ ∧ _
        refine ⟨by rw [← HTK.out]; have hh := HG5.out; rw [List.length_append] at hh; exact hh, fun j a b hj ha hb => ?_⟩
        by_cases hjk : j + 1 < kk
        · exact HL.out.2 j a b hjk ha hb
        · exact absurd HK0.out (by omega)
      case measure => simp [intOf]; omega
    obtain ⟨j, rfl⟩ : ∃ j, kk = j + 1 := ⟨kk - 1, by omega⟩
    obtain ⟨z, hzz⟩ : ∃ z, l[j]? = some z := ⟨_, List.getElem?_eq_getElem (by omega)⟩
    obtain ⟨_, b2, o2, e3, hc2⟩ := hcell j z hzz
    cases e3
    have cz := HGW.out.cell hc2
    have hwj : IntKind.i64.wrap ((j : Int) + 1 - 1) = j := by rw [IntKind.wrap_i64]; omega
    have hjl : (j : Int) < l.length := by omega
    have HZ := Lib.hid hzz
    have HKL := Lib.hid (kless_any z y wr)
    obtain ⟨lt, hltq⟩ : ∃ b, ltS z y = b := ⟨_, rfl⟩
    rw [hltq] at HKL
    have HLT := Lib.hid hltq
    clear hltq hzz hc2
    go_wp2_with fail
    refine HKL.out.mono ?_
    rintro r w9 ⟨rfl, e9⟩
    rw [← e9]
    clear e9 w9
    cases lt
    · have HV : Hid (res = false) := by show _ = _; rw [HRS.out, inc_take l j z y HZ.out HY.out HLT.out]; rfl
      go_wp2_with fail
      go_ret
      exact ⟨by rw [HV.out]; rfl, HGW.out⟩
    skip
    obtain ⟨vs4, S4, q1, q2, q3, q4⟩ := HL.out.1
    have HV4 : Hid (vs4.length = (j + 1)) := by show _ = _; rw [q2.length, List.length_map, List.length_take]; omega
    have HQ1 := Lib.hid q1
    have HQ2 := Lib.hid q2
    have HQ3 := Lib.hid q3
    have HQ4 := Lib.hid q4
    have HON : Hid (∀ o, OwnN (wr.alloc o) u2.heap.size (.slice ga (j + 1) gc) vs4) := fun o => q1.grew ((Grew.refl _).alloc o)
    have HSZ4 : Hid (∀ o, u2.heap.size ≤ (wr.alloc o).heap.size) := fun o => Nat.le_trans HGU.out.size ((Grew.refl wr).alloc o).size
    have HOX : Hid (OwnT wr wr.heap.size (keyTr y) (.agg #[.int .i64 5, .int .i64 0, .int .u64 0, .string y, .slice none 0 0, .slice none 0 0]) (Fresh wr wr)) := by
      refine OwnT.mono (S := fun _ => False) ?_ (fun _ h => h.elim)
      exact ⟨⟨by unfold i64ok; omega, by unfold i64ok; omega, by unfold u64ok; omega, hyz, by simp⟩, _, _, [], fun _ => False, rfl, OwnS.nil _ _, OwnN.nil _ _, fun g h => (by cases h), fun g h => (by cases h), fun g h => (by cases h), fun g h => h, rfl⟩
    clear q1 q2 q3 q4 hz1 hz2 hz3 hcell hc hy
    go_wp2_with (at_builtin; refine wpList_appendN rfl _ _ rfl u2.heap.size _ vs4 rfl (HON.out _) _ _ (.agg #[.int .i64 5, .int .i64 0, .int .u64 0, .string y, .slice none 0 0, .slice none 0 0]) rfl (heap_alloc_new _ _) ⟨_, _, _, _, _, _, _, _, _, _, rfl⟩ (by have := HV4.out; omega) (HSZ4.out _) ?_; intro v' w5 hown hgr hnx; obtain ⟨va2, vc2, hv5, hz1, hz2, hz3⟩ := rows_form hown.1; subst hv5; have HG5 := Lib.hid (Grow.step (x := keyTr y) (fun _ h => h.elim) vs4 S4 HQ2.out HQ1.out HQ3.out HQ4.out HOX.out (Moved.refl _ wr) _ hown hgr hnx); clear hown hgr hnx hz1 hz2 hz3)
    go_roundw
    case rel =>
      refine ⟨j + 1 + 1, by omega, by go_num, ?_⟩
      show _ ∧ _
      refine ⟨by rw [← HTK.out]; have hh := HG5.out; rw [List.length_append] at hh; exact hh, fun j2 a b hj ha hb => ?_⟩
      by_cases hjk : j2 + 1 < (j + 1)
      · exact HL.out.2 j2 a b hjk ha hb
      · have e : j2 = j := by omega
        subst e
        have h1 := HZ.out
        have h2 := HY.out
        rw [ha] at h1; rw [hb] at h2
        injection h1 with h1; injection h2 with h2
        subst h1; subst h2; exact HLT.out
    case measure => simp [intOf]; omega
theorem names_any (d : List UInt8) (l : List ByteArray) (hl : l.length ≤ 4096) (hs : ∀ x ∈ l, x.size ≤ 1000) : ListOn d 14 (nameTr l) := by
  unfold nameTr
  refine list_walk d 14 13 0 0 ⟨#[]⟩ [] (l.map keyTr) (by simpa using hl) (by simp) (fun x hx typ' ht => ?_) (fun h => ?_)
  · obtain ⟨k, hk, rfl⟩ := List.mem_map.1 hx
    rw [shape14, elem14] at ht
    have h4 : typ' = 4 := by rcases ht with h | h | h <;> first | exact h | (simp at h)
    subst h4
    intro dv pos par wid lim tv w hD hn hp
    exact says_any d 4 (keyTr k) (fun _ h => absurd h (by decide)) (hs k hk) dv pos par wid lim tv w hD hn hp
  · rw [shape14] at h; cases h
theorem keys_any (d : List UInt8) (l : List ByteArray) (hl : l.length ≤ 4096) (hs : ∀ x ∈ l, x.size ≤ 1000) : KeysOn d l := keys_walk d l hl (names_any d l hl hs)
theorem okS_eq (k n u : Int) (s : ByteArray) (keys : List ByteArray) (l : List Tr) : okS (.mk k n u s keys l) ↔ s.size ≤ 1000 ∧ (∀ x ∈ keys, x.size ≤ 1000) ∧ keys.length ≤ 4096 ∧ l.length ≤ 4096 ∧ ∀ x, x ∈ l → okS x := by rw [okS]
theorem list_all (d : List UInt8) : ∀ (m : Nat) (t : Tr), t.size ≤ m → okS t → ∀ typ, ListOn d typ t := by
  intro m
  induction m with
  | zero => intro t h; have := t.size_pos; omega
  | succ m ih =>
    intro t h ho typ
    obtain ⟨k, n, u, s, keys, l⟩ := t
    rw [okS_eq] at ho
    obtain ⟨h1, h2, h3, h4, h5⟩ := ho
    refine list_walk d typ k n u s keys l h4 h3 (fun x hx typ' _ => ?_) (fun _ => keys_any d keys h3 h2)
    have hsz := size_mem hx
    simp only [Tr.size] at h
    have hx5 := h5 x hx
    intro dv pos par wid lim tv w hD hn hp
    refine says_any d typ' x (fun _ _ => ih x (by omega) hx5 typ') ?_ dv pos par wid lim tv w hD hn hp
    obtain ⟨xk, xn, xu, xs, xkeys, xl⟩ := x
    rw [okS_eq] at hx5
    exact hx5.1
/-- **says, whatever the reference and the tree.** -/
theorem says_all (d : List UInt8) (typ : Int) (t : Tr) (ho : okS t) : SaysOn d typ t := by
  intro dv pos par wid lim tv w hD hn hp
  refine says_any d typ t (fun _ _ => list_all d t.size t (Nat.le_refl _) ho typ) ?_ dv pos par wid lim tv w hD hn hp
  obtain ⟨xk, xn, xu, xs, xkeys, xl⟩ := t
  rw [okS_eq] at ho
  exact ho.1
end Go.Proofs.Ytlhliolknaopjaa

/-
  Denote: At, Holds. Conditions: the bytes, the tree lie in memory; the tree is small.
-/
namespace Go.Proofs.Ytlhliolknaopjaa
open Go Go.ChangeShapes Go.WideShapes Go.ChangeAt Go.RowKit Go.Joins Go.Deep
set_option linter.unusedVariables false
set_option linter.unusedSimpArgs false

def lastB (d : List UInt8) (k : Nat) : Int := (((d[d.length - k]?).getD 0).toNat : Int)
/-- Holds. -/
def holdsF (d : List UInt8) (t : Tr) : Bool :=
  decide (3 ≤ d.length) && (decide ((Ft.unpackF ((d[d.length - 2]?).getD 0).toNat).2.2 = 0) && isW (lastB d 1) && decide (0 ≤ (d.length : Int) - 2 - lastB d 1) && decide (((d.length : Int) - 2 - lastB d 1) % lastB d 1 = 0) &&
    saysF d (Ft.unpackF ((d[d.length - 2]?).getD 0).toNat).1 ((d.length : Int) - 2 - lastB d 1) (lastB d 1) (Ft.unpackF ((d[d.length - 2]?).getD 0).toNat).2.1 ((d.length : Int) - 2 - lastB d 1) t)
theorem doc_own {w : World} {B : Nat} {v : Value} {l : List UInt8} (h : w.ownsRow B 5 1 v l.length (Lib.byteCells l)) (hl : l.length ≤ 1048576) : DocAt w v l := by
  refine ⟨BytesAt.of_own h, hl, fun ad n c e => ?_⟩
  rcases h.2 with ⟨h1, _⟩ | ⟨g, cap, cur, h1, _, h2, _⟩
  · rw [h1] at e; cases e
  · rw [h1] at e; cases e
    exact ⟨(Array.getElem?_eq_some_iff.1 h2).1, g, 0, rfl⟩
set_option maxRecDepth 100000 in
set_option maxHeartbeats 4000000 in
theorem At_any (d : List UInt8) (dv : Value) (pos par typ wid : Int) (t : Tr) (ho : okS t) (tv : Value) (w : World) (hD : DocAt w dv d) (hn : NodeAt w t tv) (hp : i64ok pos) : Calls Try.prog 15 #[dv, .agg #[.int .i64 pos, .int .i64 par, .int .i64 typ, .int .i64 wid], tv] w fun r w' => r = .returned (.bool (saysF d typ pos par wid pos t)) ∧ Grew w w' := by
  have HD := Lib.hid hD
  have HT := Lib.hid hn
  obtain ⟨da, dc, rfl, _⟩ := hD.form
  obtain ⟨tk, tn, tu, ts, ta4, tn4, tc4, ta5, tn5, tc5, rfl⟩ := hn.node6
  clear hD hn
  have HG := Lib.hid (Grew.refl w)
  obtain ⟨res, hres⟩ : ∃ b, saysF d typ pos par wid pos t = b := ⟨_, rfl⟩
  have hs := says_all d typ t ho (.slice da d.length dc) pos par wid pos (.agg #[.int .i64 tk, .int .i64 tn, .int .u64 tu, .string ts, .slice ta4 tn4 tc4, .slice ta5 tn5 tc5])
  rw [hres] at hs ⊢
  have HS := Lib.hid hs
  clear hs hres
  go_enter Try.func15, Try.ntmps15
  go_upto_region 1 with fail
  obtain ⟨pr, hpr⟩ : ∃ N, w.heap.size = N := ⟨_, rfl⟩
  have hr1 := heap_alloc_new w (.cells #[.int .i64 pos, .int .i64 par, .int .i64 typ, .int .i64 wid] 35)
  have hga := (Grew.refl w).alloc (.cells #[.int .i64 pos, .int .i64 par, .int .i64 typ, .int .i64 wid] 35)
  have hz1 : (w.alloc (.cells #[.int .i64 pos, .int .i64 par, .int .i64 typ, .int .i64 wid] 35)).heap.size = pr + 1 := by rw [World.size_alloc, hpr]
  generalize (w.alloc (.cells #[.int .i64 pos, .int .i64 par, .int .i64 typ, .int .i64 wid] 35)) = x1 at *
  rw [hpr] at hr1
  try rw [hpr]
  have HRR := Lib.hid hr1
  clear hr1 hpr
  replace HD := Lib.hid (DocAt.grew HD.out hga)
  replace HT := Lib.hid (NodeAt.grew hga HT.out)
  replace HG := Lib.hid (HG.out.trans hga)
  clear hga
  have hr2 := heap_alloc_new x1 (.cells #[.int .i64 tk, .int .i64 tn, .int .u64 tu, .string ts, .slice ta4 tn4 tc4, .slice ta5 tn5 tc5] 27)
  have hga := (Grew.refl x1).alloc (.cells #[.int .i64 tk, .int .i64 tn, .int .u64 tu, .string ts, .slice ta4 tn4 tc4, .slice ta5 tn5 tc5] 27)
  generalize (x1.alloc (.cells #[.int .i64 tk, .int .i64 tn, .int .u64 tu, .string ts, .slice ta4 tn4 tc4, .slice ta5 tn5 tc5] 27)) = x2 at *
  rw [hz1] at hr2
  try rw [hz1]
  have HRT := Lib.hid hr2
  clear hr2 hz1
  replace HD := Lib.hid (DocAt.grew HD.out hga)
  replace HT := Lib.hid (NodeAt.grew hga HT.out)
  replace HRR := Lib.hid (hga.heap HRR.out)
  replace HG := Lib.hid (HG.out.trans hga)
  clear hga
  have c0 := row_cellT HRR.out 0 _ rfl
  have c1 := row_cellT HRR.out 1 _ rfl
  have c2 := row_cellT HRR.out 2 _ rfl
  have c3 := row_cellT HRR.out 3 _ rfl
  have e0 := row_cellT HRT.out 0 _ rfl
  have e1 := row_cellT HRT.out 1 _ rfl
  have e2 := row_cellT HRT.out 2 _ rfl
  have e3 := row_cellT HRT.out 3 _ rfl
  have e4 := row_cellT HRT.out 4 _ rfl
  have e5 := row_cellT HRT.out 5 _ rfl
  go_wp2_with fail
  refine (HS.out _ HD.out HT.out hp).mono ?_
  rintro r u1 ⟨rfl, hgc⟩
  replace HD := Lib.hid (DocAt.grew HD.out hgc)
  replace HT := Lib.hid (NodeAt.grew hgc HT.out)
  replace HRR := Lib.hid (hgc.heap HRR.out)
  replace HRT := Lib.hid (hgc.heap HRT.out)
  replace HG := Lib.hid (HG.out.trans hgc)
  clear hgc
  clear c0 c1 c2 c3
  clear e0 e1 e2 e3 e4 e5
  go_wp2_with fail
  go_ret
  exact ⟨rfl, HG.out⟩
set_option maxRecDepth 100000 in
set_option maxHeartbeats 4000000 in
theorem Holds_any (d : List UInt8) (dv : Value) (t : Tr) (ho : okS t) (tv : Value) (w : World) (hD : DocAt w dv d) (hn : NodeAt w t tv) : Calls Try.prog 10 #[dv, tv] w fun r w' => r = .returned (.bool (holdsF d t)) ∧ Grew w w' := by
  have HD := Lib.hid hD
  have HT := Lib.hid hn
  have hdl := hD.2.1
  obtain ⟨da, dc, rfl, hdc⟩ := hD.form
  obtain ⟨tk, tn, tu, ts, ta4, tn4, tc4, ta5, tn5, tc5, rfl⟩ := hn.node6
  clear hD hn
  have HG := Lib.hid (Grew.refl w)
  obtain ⟨res, hres⟩ : ∃ b, holdsF d t = b := ⟨_, rfl⟩
  rw [hres]
  have HRES := Lib.hid hres
  clear hres
  unfold holdsF at HRES
  go_enter Try.func10, Try.ntmps10
  go_upto_region 1 with fail
  obtain ⟨pr, hpr⟩ : ∃ N, w.heap.size = N := ⟨_, rfl⟩
  have hr1 := heap_alloc_new w (.cells #[.int .i64 tk, .int .i64 tn, .int .u64 tu, .string ts, .slice ta4 tn4 tc4, .slice ta5 tn5 tc5] 27)
  have hga := (Grew.refl w).alloc (.cells #[.int .i64 tk, .int .i64 tn, .int .u64 tu, .string ts, .slice ta4 tn4 tc4, .slice ta5 tn5 tc5] 27)
  have hz1 : (w.alloc (.cells #[.int .i64 tk, .int .i64 tn, .int .u64 tu, .string ts, .slice ta4 tn4 tc4, .slice ta5 tn5 tc5] 27)).heap.size = pr + 1 := by rw [World.size_alloc, hpr]
  generalize (w.alloc (.cells #[.int .i64 tk, .int .i64 tn, .int .u64 tu, .string ts, .slice ta4 tn4 tc4, .slice ta5 tn5 tc5] 27)) = x1 at *
  rw [hpr] at hr1
  try rw [hpr]
  have HRT := Lib.hid hr1
  clear hr1 hpr
  replace HD := Lib.hid (DocAt.grew HD.out hga)
  replace HT := Lib.hid (NodeAt.grew hga HT.out)
  replace HG := Lib.hid (HG.out.trans hga)
  clear hga
  clear hz1
  by_cases h3 : 3 ≤ d.length
  rotate_left
  · have hl3 : (d.length : Int) < 3 := by omega
    have HV : Hid (res = false) := by show _ = _; rw [← HRES.out]; simp [h3]
    go_wp2_with fail
    go_ret
    exact ⟨by rw [HV.out]; rfl, HG.out⟩
  have hl1 : d.length - 1 < d.length := by omega
  have hl2 : d.length - 2 < d.length := by omega
  obtain ⟨b1, hb1⟩ : ∃ b, d[d.length - 1]? = some b := ⟨_, List.getElem?_eq_getElem hl1⟩
  obtain ⟨b2, hb2⟩ : ∃ b, d[d.length - 2]? = some b := ⟨_, List.getElem?_eq_getElem hl2⟩
  obtain ⟨bl, bo, rfl, hc1⟩ : ∃ bl bo, da = some ⟨bl, bo, none⟩ ∧ x1.cell? ⟨bl, bo + (d.length - 1), none⟩ = some (.int .u8 b1.toNat) := by
    obtain ⟨⟨a, c, e, _, _, h⟩, _⟩ := HD.out
    cases e
    obtain ⟨bl, bo, e, hc⟩ := h _ b1 hb1
    exact ⟨bl, bo, e, hc⟩
  have hc2 : x1.cell? ⟨bl, bo + (d.length - 2), none⟩ = some (.int .u8 b2.toNat) := by
    obtain ⟨⟨a, c, e, _, _, h⟩, _⟩ := HD.out
    cases e
    obtain ⟨bl', bo', e, hc⟩ := h _ b2 hb2
    cases e
    exact hc
  have e1 : lastB d 1 = (b1.toNat : Int) := by unfold lastB; rw [hb1]; rfl
  rw [e1, hb2] at HRES
  simp only [Option.getD_some] at HRES
  have hbn : b1.toNat < 256 := UInt8.toNat_lt _
  obtain ⟨x, hx⟩ : ∃ x : Int, (b1.toNat : Int) = x := ⟨_, rfl⟩
  rw [hx] at HRES hc1
  have hx0 : 0 ≤ x ∧ x < 256 := by omega
  have hun := Ft.unpack_any b2.toNat
  obtain ⟨un, hun2⟩ : ∃ q, Ft.unpackF b2.toNat = q := ⟨_, rfl⟩
  rw [hun2] at hun
  simp only [hun2] at HRES
  have HUN := Lib.hid hun
  clear hun hun2 e1 hx hbn hb1 hb2 hl1 hl2
  obtain ⟨own, wide, ue⟩ := un
  simp only at HUN HRES
  have hw1 : IntKind.i64.wrap ((d.length : Int) - 1) = (d.length : Int) - 1 := by rw [IntKind.wrap_i64]; omega
  have hw2 : IntKind.i64.wrap ((d.length : Int) - 2) = (d.length : Int) - 2 := by rw [IntKind.wrap_i64]; omega
  have hn1 : ((d.length : Int) - 1).toNat = d.length - 1 := by omega
  have hn2 : ((d.length : Int) - 2).toNat = d.length - 2 := by omega
  have hg1 : 0 ≤ (d.length : Int) - 1 ∧ (d.length : Int) - 1 < d.length := by omega
  have hg2 : 0 ≤ (d.length : Int) - 2 ∧ (d.length : Int) - 2 < d.length := by omega
  have hwx : IntKind.i64.wrap x = x := by rw [IntKind.wrap_i64]; omega
  obtain ⟨ps, hps⟩ : ∃ p : Int, (d.length : Int) - 2 - x = p := ⟨_, rfl⟩
  have hw3 : IntKind.i64.wrap ((d.length : Int) - 2 - x) = ps := by rw [IntKind.wrap_i64]; omega
  have hpr : -256 ≤ ps ∧ ps ≤ 1048576 := by omega
  rw [hps] at HRES
  clear hps
  go_wp2_with fail
  refine (HUN.out x1 (UInt8.toNat_lt _)).mono ?_
  rintro r u1 ⟨rfl, hgc⟩
  clear hc1 hc2
  replace HD := Lib.hid (DocAt.grew HD.out hgc)
  replace HT := Lib.hid (NodeAt.grew hgc HT.out)
  replace HRT := Lib.hid (hgc.heap HRT.out)
  replace HG := Lib.hid (HG.out.trans hgc)
  clear hgc
  go_wp2_with fail
  refine (code_any x u1).mono ?_
  rintro r w1 ⟨⟨cw, rfl⟩, e⟩
  rw [e]
  clear e w1
  by_cases hue : ue = 0
  rotate_left
  · have hbu : (ue != 0) = true := by simpa using hue
    have HV : Hid (res = false) := by show _ = _; rw [← HRES.out]; simp [hue]
    go_wp2_with fail
    go_ret
    exact ⟨by rw [HV.out]; rfl, HG.out⟩
  subst hue
  by_cases hww : isW x = true
  rotate_left
  · have hce : (codeE x != 0) = true := by unfold codeE; rw [if_neg hww]; decide
    have HV : Hid (res = false) := by show _ = _; rw [← HRES.out]; simp [hww]
    go_wp2_with fail
    go_ret
    exact ⟨by rw [HV.out]; rfl, HG.out⟩
  have hce : codeE x = 0 := by unfold codeE; rw [if_pos hww]
  rw [hce]
  clear hce
  by_cases hp0 : 0 ≤ ps
  rotate_left
  · have hlt0 : ps < 0 := by omega
    have HV : Hid (res = false) := by show _ = _; rw [← HRES.out]; simp [hp0]
    go_wp2_with fail
    go_ret
    exact ⟨by rw [HV.out]; rfl, HG.out⟩
  have hx1 : 1 ≤ x ∧ x ≤ 8 := by rcases isW_cases hww with rfl | rfl | rfl | rfl <;> omega
  have ht : Int.tmod ps x = ps % x := Int.tmod_eq_emod_of_nonneg hp0
  have hwz : (x == 0) = false := by rw [beq_eq_false_iff_ne]; omega
  have hm0 : 0 ≤ ps % x ∧ ps % x < 8 := ⟨Int.emod_nonneg _ (by omega), Int.lt_of_lt_of_le (Int.emod_lt_of_pos _ (by omega)) hx1.2⟩
  have hwm : IntKind.i64.wrap (ps % x) = ps % x := by rw [IntKind.wrap_i64]; omega
  obtain ⟨md, hmd⟩ : ∃ q, ps % x = q := ⟨_, rfl⟩
  rw [hmd] at ht hwm hm0
  simp only [hmd] at HRES
  clear hmd
  by_cases hm : md = 0
  rotate_left
  · have hbm : (md != 0) = true := by simpa using hm
    have HV : Hid (res = false) := by show _ = _; rw [← HRES.out]; simp [hm]
    go_wp2_with fail
    go_ret
    exact ⟨by rw [HV.out]; rfl, HG.out⟩
  subst hm
  have HRS : Hid (res = saysF d own ps x wide ps t) := by show _ = _; rw [← HRES.out]; simp [h3, hww, hp0]
  have HPS : Hid (i64ok ps) := by show i64ok ps; unfold i64ok; omega
  have HDL : Hid (d.length ≤ 1048576) := hdl
  obtain ⟨rb, hrb⟩ : ∃ b, saysF d own ps x wide ps t = b := ⟨_, rfl⟩
  have HRB := Lib.hid hrb
  clear hrb
  go_upto_region 9 with fail
  have e0 := row_cellT HRT.out 0 _ rfl
  have e1 := row_cellT HRT.out 1 _ rfl
  have e2 := row_cellT HRT.out 2 _ rfl
  have e3 := row_cellT HRT.out 3 _ rfl
  have e4 := row_cellT HRT.out 4 _ rfl
  have e5 := row_cellT HRT.out 5 _ rfl
  refine wp_region_tables Grew [[], [0], [], [], [], [], [2, 3, 4, 5], [], [0, 1, 2, 3, 4, 5, 6, 7], [0, 1, 2, 3, 4, 5, 6, 7, 8]] [[(61, 2), (62, 3), (63, 4), (64, 5), (65, 6), (66, 7)], [(59, 0), (61, 2), (62, 3), (63, 4), (64, 5), (65, 6), (66, 7)], [(59, 0), (60, 1), (62, 3), (63, 4), (64, 5), (66, 7)], [(59, 0), (60, 1), (61, 2), (63, 4), (64, 5), (66, 7)], [(59, 0), (60, 1), (61, 2), (62, 3), (64, 5), (66, 7)], [(59, 0), (60, 1), (61, 2), (62, 3), (63, 4), (66, 7)], [(59, 0), (60, 1), (61, 2), (62, 3), (63, 4), (64, 5), (66, 7)], [(59, 0), (60, 1), (61, 2), (62, 3), (63, 4), (64, 5), (65, 6)], [(59, 0), (60, 1), (61, 2), (62, 3), (63, 4), (64, 5), (65, 6), (66, 7)], [(59, 0), (60, 1), (61, 2), (62, 3), (63, 4), (64, 5), (65, 6), (66, 7), (67, 8)]] [(59, 0), (60, 1), (61, 2), (62, 3), (63, 4), (64, 5), (65, 6), (66, 7), (67, 8), (4, 9)]
    [Is (.slice (some ⟨bl, bo, none⟩) d.length dc), fun v w => DocAt w v d, Is (.int .i64 ps), Is (.int .i64 x), Is (.int .i64 own), Is (.int .i64 wide), Is (.agg #[.int .i64 ps, .int .i64 x, .int .i64 own, .int .i64 wide]), Is (.agg #[.int .i64 tk, .int .i64 tn, .int .u64 tu, .string ts, .slice ta4 tn4 tc4, .slice ta5 tn5 tc5]), Is (.bool rb), Is (.bool rb)]
    (by kernel_rfl) Grew.trans Grew.refl (Grew.refl _).drew (by kernel_rfl) ⟨is_st, fun _ _ _ hg h => h.grew hg, is_st, is_st, is_st, is_st, is_st, is_st, is_st, is_st, trivial⟩ ?_ rfl ?_
  rotate_left
  · intro y w2 hG hF
    simp only [factsH, Is, and_true, Nat.reduceAdd] at hF
    have hlast := hF.2.2.2.2.2.2.2.2.2
    clear hF
    simp only [fillL, Act.put, List.setIfInBounds_toArray, List.set_cons_zero, List.set_cons_succ, List.getD_cons_zero, List.getD_cons_succ, hlast]
    have HGF := Lib.hid (HG.out.trans hG)
    clear hG hlast
    go_wp2_with fail
    go_ret
    exact ⟨by rw [HRS.out, HRB.out]; rfl, HGF.out⟩
  refine ⟨?_, ?_⟩
  · intro y w2 hG hD K hK
    generalize hA : fillL y _ _ = A at hK ⊢
    simp only [fillL, Act.put, List.setIfInBounds_toArray, List.set_cons_zero, List.set_cons_succ, List.getD_cons_zero, List.getD_cons_succ, Is] at hA
    subst hA
    refine ite_yes (by rfl) ?_
    go_simp
    exact hK _ _ _ rfl (Grew.refl _) rfl
  refine ⟨?_, ?_⟩
  · intro y w2 hG hD K hK
    simp only [depsH, List.getD_cons_zero, List.getD_cons_succ, Is, and_true] at hD
    have h0 := hD
    clear hD
    generalize hA : fillL y _ _ = A at hK ⊢
    simp only [fillL, Act.put, List.setIfInBounds_toArray, List.set_cons_zero, List.set_cons_succ, List.getD_cons_zero, List.getD_cons_succ, Is] at hA
    subst hA
    simp only [h0] at hK ⊢
    clear h0
    refine ite_yes (by rfl) ?_
    go_simp
    refine (cloneB_any w2 _ d (HD.out.grew hG).1 (by have := HDL.out; omega)).mono ?_
    rintro r w3 ⟨v', rfl, hv, hg3⟩
    exact hK _ _ _ rfl hg3 (doc_own hv HDL.out)
  refine ⟨?_, ?_⟩
  · intro y w2 hG hD K hK
    generalize hA : fillL y _ _ = A at hK ⊢
    simp only [fillL, Act.put, List.setIfInBounds_toArray, List.set_cons_zero, List.set_cons_succ, List.getD_cons_zero, List.getD_cons_succ, Is] at hA
    subst hA
    refine ite_yes (by rfl) ?_
    go_simp
    exact hK _ _ _ rfl (Grew.refl _) rfl
  refine ⟨?_, ?_⟩
  · intro y w2 hG hD K hK
    generalize hA : fillL y _ _ = A at hK ⊢
    simp only [fillL, Act.put, List.setIfInBounds_toArray, List.set_cons_zero, List.set_cons_succ, List.getD_cons_zero, List.getD_cons_succ, Is] at hA
    subst hA
    refine ite_yes (by rfl) ?_
    go_simp
    exact hK _ _ _ rfl (Grew.refl _) rfl
  refine ⟨?_, ?_⟩
  · intro y w2 hG hD K hK
    generalize hA : fillL y _ _ = A at hK ⊢
    simp only [fillL, Act.put, List.setIfInBounds_toArray, List.set_cons_zero, List.set_cons_succ, List.getD_cons_zero, List.getD_cons_succ, Is] at hA
    subst hA
    refine ite_yes (by rfl) ?_
    go_simp
    exact hK _ _ _ rfl (Grew.refl _) rfl
  refine ⟨?_, ?_⟩
  · intro y w2 hG hD K hK
    generalize hA : fillL y _ _ = A at hK ⊢
    simp only [fillL, Act.put, List.setIfInBounds_toArray, List.set_cons_zero, List.set_cons_succ, List.getD_cons_zero, List.getD_cons_succ, Is] at hA
    subst hA
    refine ite_yes (by rfl) ?_
    go_simp
    exact hK _ _ _ rfl (Grew.refl _) rfl
  refine ⟨?_, ?_⟩
  · intro y w2 hG hD K hK
    simp only [depsH, List.getD_cons_zero, List.getD_cons_succ, Is, and_true] at hD
    have h2 := hD.1
    have h3 := hD.2.1
    have h4 := hD.2.2.1
    have h5 := hD.2.2.2
    clear hD
    generalize hA : fillL y _ _ = A at hK ⊢
    simp only [fillL, Act.put, List.setIfInBounds_toArray, List.set_cons_zero, List.set_cons_succ, List.getD_cons_zero, List.getD_cons_succ, Is] at hA
    subst hA
    simp only [h2, h3, h4, h5] at hK ⊢
    clear h2 h3 h4 h5
    refine ite_yes (by rfl) ?_
    go_simp
    exact hK _ _ _ rfl (Grew.refl _) rfl
  refine ⟨?_, ?_⟩
  · intro y w2 hG hD K hK
    have de0 := hG.cell e0
    have de1 := hG.cell e1
    have de2 := hG.cell e2
    have de3 := hG.cell e3
    have de4 := hG.cell e4
    have de5 := hG.cell e5
    generalize hA : fillL y _ _ = A at hK ⊢
    simp only [fillL, Act.put, List.setIfInBounds_toArray, List.set_cons_zero, List.set_cons_succ, List.getD_cons_zero, List.getD_cons_succ, Is] at hA
    subst hA
    refine ite_yes (by rfl) ?_
    go_simp
    exact hK _ _ _ rfl (Grew.refl _) rfl
  refine ⟨?_, ?_⟩
  · intro y w2 hG hD K hK
    simp only [depsH, List.getD_cons_zero, List.getD_cons_succ, Is, and_true] at hD
    have h0 := hD.1
    have h1 := hD.2.1
    have h2 := hD.2.2.1
    have h3 := hD.2.2.2.1
    have h4 := hD.2.2.2.2.1
    have h5 := hD.2.2.2.2.2.1
    have h6 := hD.2.2.2.2.2.2.1
    have h7 := hD.2.2.2.2.2.2.2
    clear hD
    generalize hA : fillL y _ _ = A at hK ⊢
    simp only [fillL, Act.put, List.setIfInBounds_toArray, List.set_cons_zero, List.set_cons_succ, List.getD_cons_zero, List.getD_cons_succ, Is] at hA
    subst hA
    simp only [h0, h2, h3, h4, h5, h6, h7] at hK ⊢
    clear h0 h2 h3 h4 h5 h6 h7
    refine ite_yes (by rfl) ?_
    go_simp
    refine (At_any d _ ps x own wide t ho _ w2 h1 (HT.out.grew hG) HPS.out).mono ?_
    rintro r w3 ⟨rfl, hg3⟩
    exact hK _ _ _ rfl hg3 (congrArg Value.bool HRB.out)
  refine ⟨?_, ?_⟩
  · intro y w2 hG hD K hK
    simp only [depsH, List.getD_cons_zero, List.getD_cons_succ, Is, and_true] at hD
    have h0 := hD.1
    have h1 := hD.2.1
    have h2 := hD.2.2.1
    have h3 := hD.2.2.2.1
    have h4 := hD.2.2.2.2.1
    have h5 := hD.2.2.2.2.2.1
    have h6 := hD.2.2.2.2.2.2.1
    have h7 := hD.2.2.2.2.2.2.2.1
    have h8 := hD.2.2.2.2.2.2.2.2
    clear hD
    generalize hA : fillL y _ _ = A at hK ⊢
    simp only [fillL, Act.put, List.setIfInBounds_toArray, List.set_cons_zero, List.set_cons_succ, List.getD_cons_zero, List.getD_cons_succ, Is] at hA
    subst hA
    simp only [h0, h2, h3, h4, h5, h6, h7, h8] at hK ⊢
    clear h0 h2 h3 h4 h5 h6 h7 h8
    refine ite_yes (by rfl) ?_
    go_simp
    exact hK _ _ _ rfl (Grew.refl _) rfl
  trivial
end Go.Proofs.Ytlhliolknaopjaa

/-
  Keys: the examples of the chapter hold. Conditions: none.
-/
namespace Go.Proofs.Ytlhliolknaopjaa
open Go Go.ChangeShapes Go.WideShapes Go.ChangeAt Go.RowKit Go.Joins Go.Deep
set_option linter.unusedVariables false
set_option linter.unusedSimpArgs false

theorem lenoks (l : List ByteArray) (h : (l.all fun s => decide (s.size ≤ 9223372036854775807)) = true) : ∀ s ∈ l, lenok s.size := by
  intro s hs
  simpa [lenok] using List.all_eq_true.1 h s hs
theorem w07_k0 : keyE ⟨#[97]⟩ = 0 := by decide +kernel
theorem w07_k3 : keyE ⟨#[]⟩ = 0 := by decide +kernel
theorem w07_k7 : keyE ⟨#[97, 0]⟩ = 70 := by decide +kernel
theorem w07_l11 : ltS ⟨#[97]⟩ ⟨#[97, 98]⟩ = true := by decide +kernel
theorem w07_l15 : ltS ⟨#[97, 98]⟩ ⟨#[98]⟩ = true := by decide +kernel
theorem w07_l19 : ltS ⟨#[122]⟩ ⟨#[195, 169]⟩ = true := by decide +kernel
theorem w07_l23 : ltS ⟨#[97]⟩ ⟨#[97]⟩ = false := by decide +kernel
theorem w07_o2 : (decide ((ordK [⟨#[98]⟩, ⟨#[97]⟩, ⟨#[]⟩, ⟨#[97, 98]⟩]).1 = [2, 1, 3, 0]) && decide ((ordK [⟨#[98]⟩, ⟨#[97]⟩, ⟨#[]⟩, ⟨#[97, 98]⟩]).2 = 0)) = true := by decide +kernel
theorem w07_o6 : (decide ((ordK [⟨#[97]⟩, ⟨#[98]⟩, ⟨#[97]⟩]).1 = []) && decide ((ordK [⟨#[97]⟩, ⟨#[98]⟩, ⟨#[97]⟩]).2 = 71)) = true := by decide +kernel
theorem w07_o10 : (decide ((ordK []).1 = []) && decide ((ordK []).2 = 0)) = true := by decide +kernel
theorem w07_f1 : (decide ((findK [⟨#[97]⟩, ⟨#[99]⟩, ⟨#[101]⟩] ⟨#[99]⟩).1 = 1) && decide ((findK [⟨#[97]⟩, ⟨#[99]⟩, ⟨#[101]⟩] ⟨#[99]⟩).2 = true)) = true := by decide +kernel
theorem w07_f5 : (decide ((findK [⟨#[97]⟩, ⟨#[99]⟩, ⟨#[101]⟩] ⟨#[100]⟩).1 = 0) && decide ((findK [⟨#[97]⟩, ⟨#[99]⟩, ⟨#[101]⟩] ⟨#[100]⟩).2 = false)) = true := by decide +kernel
theorem w07_f10 : (decide ((findK [⟨#[99]⟩, ⟨#[97]⟩, ⟨#[98]⟩] ⟨#[99]⟩).1 = 0) && decide ((findK [⟨#[99]⟩, ⟨#[97]⟩, ⟨#[98]⟩] ⟨#[99]⟩).2 = false)) = true := by decide +kernel
theorem w07_f11 : (decide ((findK [⟨#[99]⟩, ⟨#[97]⟩, ⟨#[98]⟩] ⟨#[98]⟩).1 = 2) && decide ((findK [⟨#[99]⟩, ⟨#[97]⟩, ⟨#[98]⟩] ⟨#[98]⟩).2 = true)) = true := by decide +kernel
theorem w07_f12 : (decide ((findK [⟨#[99]⟩, ⟨#[97]⟩, ⟨#[98]⟩] ⟨#[97]⟩).1 = 0) && decide ((findK [⟨#[99]⟩, ⟨#[97]⟩, ⟨#[98]⟩] ⟨#[97]⟩).2 = false)) = true := by decide +kernel
theorem w07_c8 : checkE (.mk 10 0 0 ⟨#[]⟩ [] [(.mk 17 0 0 ⟨#[]⟩ [⟨#[98]⟩, ⟨#[97]⟩] [(.mk 3 5 0 ⟨#[]⟩ [] []), (.mk 17 0 0 ⟨#[]⟩ [⟨#[100]⟩, ⟨#[99]⟩] [(.mk 3 1 0 ⟨#[]⟩ [] []), (.mk 3 2 0 ⟨#[]⟩ [] [])])])]) = 0 := by decide +kernel
theorem w07_c9 : checkE (.mk 17 0 0 ⟨#[]⟩ [⟨#[97]⟩, ⟨#[97]⟩] [(.mk 3 5 0 ⟨#[]⟩ [] []), (.mk 3 5 0 ⟨#[]⟩ [] [])]) = 71 := by decide +kernel
theorem w07_want : sortT (.mk 10 0 0 ⟨#[]⟩ [] [(.mk 17 0 0 ⟨#[]⟩ [⟨#[98]⟩, ⟨#[97]⟩] [(.mk 3 5 0 ⟨#[]⟩ [] []), (.mk 17 0 0 ⟨#[]⟩ [⟨#[100]⟩, ⟨#[99]⟩] [(.mk 3 1 0 ⟨#[]⟩ [] []), (.mk 3 2 0 ⟨#[]⟩ [] [])])])]) = (.mk 10 0 0 ⟨#[]⟩ [] [(.mk 17 0 0 ⟨#[]⟩ [⟨#[97]⟩, ⟨#[98]⟩] [(.mk 17 0 0 ⟨#[]⟩ [⟨#[99]⟩, ⟨#[100]⟩] [(.mk 3 2 0 ⟨#[]⟩ [] []), (.mk 3 1 0 ⟨#[]⟩ [] [])]), (.mk 3 5 0 ⟨#[]⟩ [] [])])]) := by kernel_rfl
end Go.Proofs.Ytlhliolknaopjaa
