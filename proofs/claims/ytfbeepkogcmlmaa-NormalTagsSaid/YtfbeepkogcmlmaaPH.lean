/-
  Texts of the proof, part 8 of 8.
-/
import Derived.Test.YtfbeepkogcmlmaaPG

/-
  Normal forms: the law's retagged. Conditions: the argument can be read and is small.
-/
namespace Go.Proofs.Ytfbeepkogcmlmaa
open Go Go.ChangeShapes Go.WideShapes Go.ChangeAt Go.RowKit Go.Joins Go.Deep
set_option linter.unusedVariables false
set_option linter.unusedSimpArgs false

/-- A child more, by a field of a struct. -/
theorem Grow.field {W wr w2 w5 : World} {g : Nat} {lv v' xv : Value} {ts : List Tr} {x : Tr} {Sx : Nat → Prop} (hgW : g < W.heap.size) (vs : List Value) (S : Nat → Prop) (h2 : KidsO wr W.heap.size ts vs S) (h1 : OwnN wr W.heap.size lv vs)
    (h3 : ∀ q, S q → W.heap.size ≤ q ∧ q < wr.heap.size ∧ lv.ownBlock ≠ some q) (h4 : Moved (fun q => q = g) W wr) (hg : Grew wr w2)
    (hx : OwnT w2 wr.heap.size x xv Sx) (hSx : ∀ q, Sx q → wr.heap.size ≤ q ∧ q < w2.heap.size) (hown : OwnN w5 W.heap.size v' (vs ++ [xv])) (hgr : w2.grownBy w5 lv.ownBlock) (hn : Next w2 lv.ownBlock v'.ownBlock) :
    Grow (fun q => q = g) W (w5.setCell ⟨g, 5, none⟩ v') v' (ts ++ [x]) := by
  have hm3 : Moved (fun k => some k = lv.ownBlock) w2 w5 := Moved.of_grown hgr
  have hm4 : Moved (fun k => k = g) w5 (w5.setCell ⟨g, 5, none⟩ v') := Moved.setCell (S := fun k => k = g) (p := ⟨g, 5, none⟩) (Moved.refl _ w5) (fun _ => rfl) _
  have hlt : ∀ q, lv.ownBlock = some q → W.heap.size ≤ q ∧ q < wr.heap.size := fun q hq => World.ownsRow.lt h1.1 q hq
  have hs2 := hg.size
  have hs3 := hm3.size
  have hs4 := hm4.size
  have hWr := h4.size
  have k1 : KidsO (w5.setCell ⟨g, 5, none⟩ v') W.heap.size ts vs S := ((h2.grew hg).kept hm3 (fun q hq e => (h3 q hq).2.2 e.symm)).kept hm4 (fun q hq e => by have := (h3 q hq).1; omega)
  have k2 : OwnT (w5.setCell ⟨g, 5, none⟩ v') W.heap.size x xv Sx := ((hx.kept hm3 (fun q hq e => by have := hlt q e.symm; have := (hSx q hq).1; omega)).kept hm4 (fun q hq e => by have := (hSx q hq).1; omega)).base hWr
  refine ⟨vs ++ [xv], fun q => S q ∨ Sx q, ⟨Moved.owns hm4 hown.1 (fun q hq e => by have := World.ownsRow.lt hown.1 q hq; omega), hown.2⟩, k1.app (KidsO.one k2) (fun q hq hh => by have := (h3 q hq).2.1; have := (hSx q hh).1; omega), fun q hq => ?_, ?_⟩
  · have hb : W.heap.size ≤ q ∧ q < w2.heap.size := by
      rcases hq with hq | hq
      · have := h3 q hq; omega
      · have := hSx q hq; omega
    refine ⟨hb.1, by omega, fun e => ?_⟩
    rcases hn q e with e | e
    · rcases hq with hq | hq
      · exact (h3 q hq).2.2 e
      · have := hlt q e; have := hSx q hq; omega
    · omega
  · exact (((h4.grew hg).trans hm3 (fun j hj e => by have := hlt j e.symm; omega)).trans hm4 (fun j hj e => e))
theorem retL_snoc (q : Int) (x : Tr) : ∀ (l : List Tr) (i : Nat), retL (l ++ [x]) q i = retL l q i ++ [retT x (q + ((i + l.length : Nat) : Int))]
  | [], i => by simp [retL]
  | t :: r, i => by
    simp only [List.cons_append, retL]
    rw [retL_snoc q x r (i + 1)]
    simp only [List.length_cons]
    rw [show i + 1 + r.length = i + (r.length + 1) by omega]
/-- Between two rounds: the row of out, its children so far. -/
def RetI (w3 wr : World) (g N : Nat) (k n u : Int) (s : ByteArray) (kv : Value) (l : List Tr) (q : Int) (kk : Nat) : Prop :=
  ∃ a c, wr.heap[g]? = some (.cells #[.int .i64 k, .int .i64 n, .int .u64 u, .string s, kv, .slice a kk c] 26 (0, 0)) ∧ Grow (fun e => e = g) w3 wr (.slice a kk c) (retL (l.take kk) q 0)
set_option maxRecDepth 100000 in
set_option maxHeartbeats 8000000 in
theorem ret_any : ∀ (m : Nat) (t : Tr), t.size ≤ m → ∀ (by_ : Int) (v : Value) (w : World), NodeAt w t v → Few t → 0 ≤ by_ → by_ ≤ 100000 →
    Calls Try.prog 19 #[v, .int .i64 by_] w fun r w' => ∃ v', r = .returned v' ∧ OwnT w' w.heap.size (retT t by_) v' (Fresh w w') ∧ Grew w w' := by
  intro m
  induction m with
  | zero => intro t ht; have := t.size_pos; omega
  | succ m ih =>
  intro t ht by_ v w hn hf hby0 hby1
  obtain ⟨k, n, u, s, keys, l⟩ := t
  simp only [NodeAt] at hn
  obtain ⟨hb, kv, lv, vs, rfl, hks, hrows, hkids⟩ := hn
  simp only [Few] at hf
  obtain ⟨hf1, hf2, hf3⟩ := hf
  have hkl : vs.length = l.length := hkids.length
  have HKS := Lib.hid hks
  have HK := Lib.hid hkids
  have HF3 := Lib.hid hf3
  have HB := Lib.hid hb
  obtain ⟨a4, c4, rfl, hx1, hx2, hx3, hx4⟩ := hks
  clear hx1 hx2 hx3 hx4
  have HROWS := Lib.hid hrows
  obtain ⟨a5, c5, rfl, hx1, hc5, hx3, hx4⟩ := hrows
  clear hx1 hx3 hx4
  rw [hkl] at HROWS ⊢
  have hkz : Hid (∀ x ∈ keys, lenok x.size) := fun x hx => by
    obtain ⟨_, _, _, _, _, _, h⟩ := HKS.out
    obtain ⟨i, hi, rfl⟩ := List.mem_iff_getElem.1 hx
    exact (h i _ (List.getElem?_eq_getElem hi)).1
  have hsz : ∀ x ∈ l, x.size ≤ m := fun x hx => by have := size_mem hx; simp only [Tr.size] at ht; omega
  have HSZ := Lib.hid hsz
  clear hkids hf3 hb hsz ht hkl hc5
  have hll : l.length ≤ 4096 := by omega
  have hkl4 : keys.length ≤ 4096 := by omega
  have HIH := Lib.hid ih
  clear ih
  go_enter Try.func19, Try.ntmps19
  go_wp2_with fail
  have hb1 := heap_alloc_new w (.cells #[.int .i64 k, .int .i64 n, .int .u64 u, .string s, .slice a4 keys.length c4, .slice a5 l.length c5] 26)
  have hg1 := (Grew.refl w).alloc (.cells #[.int .i64 k, .int .i64 n, .int .u64 u, .string s, .slice a4 keys.length c4, .slice a5 l.length c5] 26)
  have hs1 : (w.alloc (.cells #[.int .i64 k, .int .i64 n, .int .u64 u, .string s, .slice a4 keys.length c4, .slice a5 l.length c5] 26)).heap.size = w.heap.size + 1 := World.size_alloc _ _
  generalize (w.alloc (.cells #[.int .i64 k, .int .i64 n, .int .u64 u, .string s, .slice a4 keys.length c4, .slice a5 l.length c5] 26)) = w1 at *
  have hb2 := heap_alloc_new w1 (.cells #[.int .i64 0, .int .i64 0, .int .u64 0, .string ⟨#[]⟩, .slice none 0 0, .slice none 0 0] 26)
  have hg2 := (Grew.refl w1).alloc (.cells #[.int .i64 0, .int .i64 0, .int .u64 0, .string ⟨#[]⟩, .slice none 0 0, .slice none 0 0] 26)
  have hs2 : (w1.alloc (.cells #[.int .i64 0, .int .i64 0, .int .u64 0, .string ⟨#[]⟩, .slice none 0 0, .slice none 0 0] 26)).heap.size = w1.heap.size + 1 := World.size_alloc _ _
  rw [hs1] at hb2 hs2
  skip
  generalize (w1.alloc (.cells #[.int .i64 0, .int .i64 0, .int .u64 0, .string ⟨#[]⟩, .slice none 0 0, .slice none 0 0] 26)) = w2 at *
  replace hb1 := hg2.heap hb1
  have hG := hg1.trans hg2
  have hs2' : w2.heap.size = w.heap.size + 2 := by omega
  obtain ⟨N, hN⟩ : ∃ N, w.heap.size = N := ⟨_, rfl⟩
  rw [hN] at hb1 hb2 hs2' ⊢
  have hB2 : Hid (N + 2 ≤ w2.heap.size) := by show _ ≤ _; omega
  have c0 := row_cellT hb1 0 _ rfl
  have c1 := row_cellT hb1 1 _ rfl
  have c2 := row_cellT hb1 2 _ rfl
  have c3 := row_cellT hb1 3 _ rfl
  have c4' := row_cellT hb1 4 _ rfl
  have HB1 := Lib.hid hb1
  have HB2 := Lib.hid hb2
  have HG := Lib.hid hG
  have HS2 := Lib.hid hs2'
  have HN := Lib.hid hN
  clear hb1 hb2 hG hs1 hs2 hs2' hg1 hg2 hN
  refine wp_region_last Grew [[], [0], [], [2], [], [4], [], [6], [], [8], [9], [1, 3, 5, 7, 10], [], [11, 12]] [[(9, 2), (10, 3), (11, 4), (12, 5), (13, 6), (14, 7), (15, 8), (16, 9), (17, 10), (18, 11), (5, 12)], [(7, 0), (9, 2), (10, 3), (11, 4), (12, 5), (13, 6), (14, 7), (15, 8), (16, 9), (17, 10), (5, 12)], [(7, 0), (8, 1), (11, 4), (12, 5), (13, 6), (14, 7), (15, 8), (16, 9), (17, 10), (18, 11), (5, 12)], [(7, 0), (8, 1), (9, 2), (11, 4), (12, 5), (13, 6), (14, 7), (15, 8), (16, 9), (17, 10), (5, 12)], [(7, 0), (8, 1), (9, 2), (10, 3), (13, 6), (14, 7), (15, 8), (16, 9), (17, 10), (18, 11), (5, 12)], [(7, 0), (8, 1), (9, 2), (10, 3), (11, 4), (13, 6), (14, 7), (15, 8), (16, 9), (17, 10), (5, 12)], [(7, 0), (8, 1), (9, 2), (10, 3), (11, 4), (12, 5), (15, 8), (16, 9), (17, 10), (18, 11), (5, 12)], [(7, 0), (8, 1), (9, 2), (10, 3), (11, 4), (12, 5), (13, 6), (15, 8), (16, 9), (17, 10), (5, 12)], [(7, 0), (8, 1), (9, 2), (10, 3), (11, 4), (12, 5), (13, 6), (14, 7), (17, 10), (18, 11), (5, 12)], [(7, 0), (8, 1), (9, 2), (10, 3), (11, 4), (12, 5), (13, 6), (14, 7), (15, 8), (18, 11), (5, 12)], [(7, 0), (8, 1), (9, 2), (10, 3), (11, 4), (12, 5), (13, 6), (14, 7), (15, 8), (16, 9), (5, 12)], [(7, 0), (8, 1), (9, 2), (10, 3), (11, 4), (12, 5), (13, 6), (14, 7), (15, 8), (16, 9), (17, 10), (5, 12)], [(7, 0), (8, 1), (9, 2), (10, 3), (11, 4), (12, 5), (13, 6), (14, 7), (15, 8), (16, 9), (17, 10), (18, 11)], [(7, 0), (8, 1), (9, 2), (10, 3), (11, 4), (12, 5), (13, 6), (14, 7), (15, 8), (16, 9), (17, 10), (18, 11), (5, 12)]]
    [Is (.pointer (some ⟨N, 0, none⟩)), Is (.int .i64 k), Is (.pointer (some ⟨N, 1, none⟩)), Is (.int .i64 n), Is (.pointer (some ⟨N, 2, none⟩)), Is (.int .u64 u), Is (.pointer (some ⟨N, 3, none⟩)), Is (.string s), Is (.pointer (some ⟨N, 4, none⟩)), Is (.slice a4 keys.length c4), fun v w => OwnS w (N + 2) v keys, fun v w => ∃ kv', v = .agg #[.int .i64 k, .int .i64 n, .int .u64 u, .string s, kv', .slice none 0 0] ∧ OwnS w (N + 2) kv' keys, fun v w => ∃ g, v = .pointer (some ⟨g, 0, none⟩) ∧ (N + 2) ≤ g ∧ w.heap[g]? = some (.cells #[.int .i64 0, .int .i64 0, .int .u64 0, .string ⟨#[]⟩, .slice none 0 0, .slice none 0 0] 26)]
    (by kernel_rfl) Grew.trans Grew.refl (Grew.refl _).drew (by kernel_rfl) ⟨is_st, is_st, is_st, is_st, is_st, is_st, is_st, is_st, is_st, is_st, fun _ _ _ hg h => OwnS.grew h hg, fun _ _ _ hg h => h.elim fun q h => ⟨q, h.1, OwnS.grew h.2 hg⟩, fun _ _ _ hg h => h.elim fun q h => ⟨q, h.1, h.2.1, hg.heap h.2.2⟩, trivial⟩ rfl ⟨?_, ?_, ?_, ?_, ?_, ?_, ?_, ?_, ?_, ?_, ?_, ?_, ?_, trivial⟩ ?_ rfl
  · intro y w2' hG hD K hK
    simp only [fillL, Act.put, List.setIfInBounds_toArray, List.set_cons_zero, List.set_cons_succ, List.getD_cons_zero, List.getD_cons_succ, Is] at hK ⊢
    refine ite_yes (by rfl) ?_
    go_simp
    exact hK _ _ _ rfl (Grew.refl _) rfl
  · intro y w2' hG hD K hK
    simp only [depsH, List.getD_cons_zero, List.getD_cons_succ, Is, and_true] at hD
    have h0 := hD
    clear hD
    have dc0 := hG.cell c0
    have dc1 := hG.cell c1
    have dc2 := hG.cell c2
    have dc3 := hG.cell c3
    have dc4' := hG.cell c4'
    simp only [fillL, Act.put, List.setIfInBounds_toArray, List.set_cons_zero, List.set_cons_succ, List.getD_cons_zero, List.getD_cons_succ, Is] at hK ⊢
    rw [h0] at hK ⊢
    clear h0
    refine ite_yes (by rfl) ?_
    go_simp
    exact hK _ _ _ rfl (Grew.refl _) rfl
  · intro y w2' hG hD K hK
    simp only [fillL, Act.put, List.setIfInBounds_toArray, List.set_cons_zero, List.set_cons_succ, List.getD_cons_zero, List.getD_cons_succ, Is] at hK ⊢
    refine ite_yes (by rfl) ?_
    go_simp
    exact hK _ _ _ rfl (Grew.refl _) rfl
  · intro y w2' hG hD K hK
    simp only [depsH, List.getD_cons_zero, List.getD_cons_succ, Is, and_true] at hD
    have h2 := hD
    clear hD
    have dc0 := hG.cell c0
    have dc1 := hG.cell c1
    have dc2 := hG.cell c2
    have dc3 := hG.cell c3
    have dc4' := hG.cell c4'
    simp only [fillL, Act.put, List.setIfInBounds_toArray, List.set_cons_zero, List.set_cons_succ, List.getD_cons_zero, List.getD_cons_succ, Is] at hK ⊢
    rw [h2] at hK ⊢
    clear h2
    refine ite_yes (by rfl) ?_
    go_simp
    exact hK _ _ _ rfl (Grew.refl _) rfl
  · intro y w2' hG hD K hK
    simp only [fillL, Act.put, List.setIfInBounds_toArray, List.set_cons_zero, List.set_cons_succ, List.getD_cons_zero, List.getD_cons_succ, Is] at hK ⊢
    refine ite_yes (by rfl) ?_
    go_simp
    exact hK _ _ _ rfl (Grew.refl _) rfl
  · intro y w2' hG hD K hK
    simp only [depsH, List.getD_cons_zero, List.getD_cons_succ, Is, and_true] at hD
    have h4 := hD
    clear hD
    have dc0 := hG.cell c0
    have dc1 := hG.cell c1
    have dc2 := hG.cell c2
    have dc3 := hG.cell c3
    have dc4' := hG.cell c4'
    simp only [fillL, Act.put, List.setIfInBounds_toArray, List.set_cons_zero, List.set_cons_succ, List.getD_cons_zero, List.getD_cons_succ, Is] at hK ⊢
    rw [h4] at hK ⊢
    clear h4
    refine ite_yes (by rfl) ?_
    go_simp
    exact hK _ _ _ rfl (Grew.refl _) rfl
  · intro y w2' hG hD K hK
    simp only [fillL, Act.put, List.setIfInBounds_toArray, List.set_cons_zero, List.set_cons_succ, List.getD_cons_zero, List.getD_cons_succ, Is] at hK ⊢
    refine ite_yes (by rfl) ?_
    go_simp
    exact hK _ _ _ rfl (Grew.refl _) rfl
  · intro y w2' hG hD K hK
    simp only [depsH, List.getD_cons_zero, List.getD_cons_succ, Is, and_true] at hD
    have h6 := hD
    clear hD
    have dc0 := hG.cell c0
    have dc1 := hG.cell c1
    have dc2 := hG.cell c2
    have dc3 := hG.cell c3
    have dc4' := hG.cell c4'
    simp only [fillL, Act.put, List.setIfInBounds_toArray, List.set_cons_zero, List.set_cons_succ, List.getD_cons_zero, List.getD_cons_succ, Is] at hK ⊢
    rw [h6] at hK ⊢
    clear h6
    refine ite_yes (by rfl) ?_
    go_simp
    exact hK _ _ _ rfl (Grew.refl _) rfl
  · intro y w2' hG hD K hK
    simp only [fillL, Act.put, List.setIfInBounds_toArray, List.set_cons_zero, List.set_cons_succ, List.getD_cons_zero, List.getD_cons_succ, Is] at hK ⊢
    refine ite_yes (by rfl) ?_
    go_simp
    exact hK _ _ _ rfl (Grew.refl _) rfl
  · intro y w2' hG hD K hK
    simp only [depsH, List.getD_cons_zero, List.getD_cons_succ, Is, and_true] at hD
    have h8 := hD
    clear hD
    have dc0 := hG.cell c0
    have dc1 := hG.cell c1
    have dc2 := hG.cell c2
    have dc3 := hG.cell c3
    have dc4' := hG.cell c4'
    simp only [fillL, Act.put, List.setIfInBounds_toArray, List.set_cons_zero, List.set_cons_succ, List.getD_cons_zero, List.getD_cons_succ, Is] at hK ⊢
    rw [h8] at hK ⊢
    clear h8
    refine ite_yes (by rfl) ?_
    go_simp
    exact hK _ _ _ rfl (Grew.refl _) rfl
  · intro y w2' hG hD K hK
    simp only [depsH, List.getD_cons_zero, List.getD_cons_succ, Is, and_true] at hD
    have h9 := hD
    clear hD
    simp only [fillL, Act.put, List.setIfInBounds_toArray, List.set_cons_zero, List.set_cons_succ, List.getD_cons_zero, List.getD_cons_succ, Is] at hK ⊢
    rw [h9] at hK ⊢
    clear h9
    refine ite_yes (by rfl) ?_
    go_simp
    refine (copytexts_any _ _ _ (HKS.out.grew (HG.out.trans hG)) (by omega)).mono ?_
    rintro r w3 ⟨v', rfl, hv, hg⟩
    exact hK _ _ _ rfl hg (rows_base hv (Nat.le_trans hB2.out hG.size))
  · intro y w2' hG hD K hK
    simp only [depsH, List.getD_cons_zero, List.getD_cons_succ, Is, and_true] at hD
    have h1 := hD.1
    have h3 := hD.2.1
    have h5 := hD.2.2.1
    have h7 := hD.2.2.2.1
    have h10 := hD.2.2.2.2
    clear hD
    simp only [fillL, Act.put, List.setIfInBounds_toArray, List.set_cons_zero, List.set_cons_succ, List.getD_cons_zero, List.getD_cons_succ, Is] at hK ⊢
    rw [h1, h3, h5, h7] at hK ⊢
    clear h1 h3 h5 h7
    refine ite_yes (by rfl) ?_
    refine Exists.elim (rows_form h10) fun va h => Exists.elim h fun vc h => ?_
    have hs := h.1
    clear h
    rw [hs] at hK h10 ⊢
    go_simp
    exact hK _ _ _ rfl (Grew.refl _) ⟨_, rfl, h10⟩
  · intro y w2' hG hD K hK
    simp only [fillL, Act.put, List.setIfInBounds_toArray, List.set_cons_zero, List.set_cons_succ, List.getD_cons_zero, List.getD_cons_succ, Is] at hK ⊢
    refine ite_yes (by rfl) ?_
    go_simp
    exact hK _ _ _ rfl ((Grew.refl _).alloc _) ⟨_, rfl, Nat.le_trans hB2.out hG.size, heap_alloc_new _ _⟩
  · intro y w2' hG hF K hK
    simp only [factsH, Is, and_true, Nat.reduceAdd] at hF
    have h0 := hF.1
    have h1 := hF.2.1
    have h2 := hF.2.2.1
    have h3 := hF.2.2.2.1
    have h4 := hF.2.2.2.2.1
    have h5 := hF.2.2.2.2.2.1
    have h6 := hF.2.2.2.2.2.2.1
    have h7 := hF.2.2.2.2.2.2.2.1
    have h8 := hF.2.2.2.2.2.2.2.2.1
    have h9 := hF.2.2.2.2.2.2.2.2.2.1
    have h10 := hF.2.2.2.2.2.2.2.2.2.2.1
    have h11 := hF.2.2.2.2.2.2.2.2.2.2.2.1
    have h12 := hF.2.2.2.2.2.2.2.2.2.2.2.2
    clear hF
    simp only [lastOf]
    simp only [fillL, Act.put, List.setIfInBounds_toArray, List.set_cons_zero, List.set_cons_succ, List.getD_cons_zero, List.getD_cons_succ, Is] at hK ⊢
    rw [h0, h1, h2, h3, h4, h5, h6, h7, h8, h9]
    clear h0 h1 h2 h3 h4 h5 h6 h7 h8 h9
    refine ite_yes (by rfl) ?_
    refine Exists.elim h11 fun kv' h => ?_
    have hs11 := h.1
    have hkv := h.2
    refine Exists.elim (rows_form hkv) fun va h => Exists.elim h fun vc h => ?_
    have hs := h.1
    rw [hs] at hkv hs11
    clear h h11 hs h10
    refine Exists.elim h12 fun g h => ?_
    have hs12 := h.1
    have hgB := h.2.1
    have hrow := h.2.2
    clear h h12
    rw [hs11, hs12]
    clear hs11 hs12
    have f0 := row_frozen hrow 0
    have f1 := row_frozen hrow 1
    have f2 := row_frozen hrow 2
    have f3 := row_frozen hrow 3
    have f4 := row_frozen hrow 4
    have f5 := row_frozen hrow 5
    have d0 := row_cellT hrow 0 _ rfl
    have d1 := row_cellT hrow 1 _ rfl
    have d2 := row_cellT hrow 2 _ rfl
    have d3 := row_cellT hrow 3 _ rfl
    have d4 := row_cellT hrow 4 _ rfl
    have d5 := row_cellT hrow 5 _ rfl
    have hrow2 := heap_store6 hrow (.int .i64 k) (.int .i64 n) (.int .u64 u) (.string s) (.slice va keys.length vc) (.slice none 0 0)
    have hmv := moved_store6 w2' g (.int .i64 k) (.int .i64 n) (.int .u64 u) (.string s) (.slice va keys.length vc) (.slice none 0 0)
    have hkv2 : OwnS _ (N + 2) (.slice va keys.length vc) keys := Moved.owns hmv hkv (fun q hq e => not_block hkv hrow (by decide) (by rw [hq, e]))
    have hgr := Moved.fresh hG hmv (fun q e => by have := HS2.out; omega)
    clear hG hrow hmv hkv
    go_simp
    refine hK _ _ ?_
    clear f0 f1 f2 f3 f4 f5 d0 d1 d2 d3 d4 d5 hK
    generalize ((((((w2'.setCell ⟨g, 0, none⟩ (.int .i64 k)).setCell ⟨g, 1, none⟩ (.int .i64 n)).setCell ⟨g, 2, none⟩ (.int .u64 u)).setCell ⟨g, 3, none⟩ (.string s)).setCell ⟨g, 4, none⟩ (.slice va keys.length vc)).setCell ⟨g, 5, none⟩ (.slice none 0 0)) = w3 at *
    have HROW := Lib.hid hrow2
    have HKV := Lib.hid hkv2
    have HB1' := Lib.hid (hgr.heap HB1.out)
    have HB2' := Lib.hid (hgr.heap HB2.out)
    have HG3 := Lib.hid (HG.out.trans hgr)
    clear hrow2 hkv2 HB1 HB2 HG c0 c1 c2 c3 c4'
    have hgN : Hid (N + 2 ≤ g) := hgB
    clear hgB
    generalize y 10 = y10
    go_wp2_with fail
    have hq2 : 0 ≤ by_ / 2 ∧ by_ / 2 ≤ 50000 := by omega
    go_loopw [6] (fun i wr => ∃ kk : Nat, kk ≤ l.length ∧ i = .int .i64 kk ∧ Hid (RetI w3 wr g N k n u s (.slice va keys.length vc) l (by_ / 2) kk)) (fun i _ => l.length - (intOf i).toNat)
    case atStart => exact ⟨0, Nat.zero_le _, rfl, none, 0, HROW.out, Grow.start _ _⟩
    case round =>
      obtain ⟨kk, hkk, rfl, HW⟩ := hrel
      obtain ⟨ga, gc, hrowg, hgrow⟩ := HW.out
      obtain ⟨vs4, S4, q1, q2, q3, q4⟩ := hgrow
      have hg3 : g < w3.heap.size := (Array.getElem?_eq_some_iff.1 HROW.out).1
      have HGW : Hid (Grew w wr) := Moved.fresh HG3.out q4 (fun e h => by have := HN.out; have := hgN.out; omega)
      have HROWG := Lib.hid hrowg
      have HBX : Hid (wr.heap[N]? = _) := Moved.heap q4 HB1'.out (fun e => by have := hgN.out; omega)
      have HRX : Hid (wr.heap[N + 1]? = _) := Moved.heap q4 HB2'.out (fun e => by have := hgN.out; omega)
      have HQ := Lib.hid (And.intro q1 (And.intro q2 (And.intro q3 (And.intro q4 hg3))))
      have b5 := row_cellT HBX.out 5 _ rfl
      clear hrowg q1 q2 q3 q4 hg3 HW
      by_cases hlt : kk < l.length
      · obtain ⟨x, hx⟩ : ∃ x, l[kk]? = some x := ⟨_, List.getElem?_eq_getElem hlt⟩
        obtain ⟨xv, hxv, hnx⟩ := HK.out.get hx
        have hxm : x ∈ l := List.mem_of_getElem? hx
        have HX := Lib.hid (show l.take kk ++ [x] = l.take (kk + 1) by rw [List.take_add_one, hx]; rfl)
        have HFX := Lib.hid (HF3.out.mem hxm)
        have HXS := Lib.hid (HSZ.out x hxm)
        have hcall : Hid (∀ w', Grew w w' → NodeAt w' x xv) := fun w' hg => hnx.grew hg
        obtain ⟨b, off, rfl, hc6⟩ : ∃ b off, a5 = some ⟨b, off, none⟩ ∧ Cells6 wr b (off + kk * 6) xv := by
          obtain ⟨a, c, e, _, _, _, h⟩ := HROWS.out
          injection e with e1 e2 e3
          subst e1
          obtain ⟨b, off, e, h6⟩ := h kk xv hxv
          exact ⟨b, off, e, h6.grew HGW.out⟩
        obtain ⟨xk, xn, xu, xs, xa4, xn4, xc4, xa5, xn5, xc5, rfl⟩ := hnx.node6
        obtain ⟨e0, e1, e2, e3, e4, e5⟩ := hc6.get
        have r5 := row_cellT HROWG.out 5 _ rfl
        have hwa : IntKind.i64.wrap (by_ / 2 + (kk : Int)) = by_ / 2 + (kk : Int) := by rw [IntKind.wrap_i64]; omega
        have hwd : IntKind.i64.wrap (Int.tdiv by_ 2) = by_ / 2 := by rw [IntKind.wrap_i64, Int.tdiv_eq_ediv_of_nonneg hby0]; omega
        clear hc6 hx hxv hnx hxm
        have hlti : (kk : Int) < l.length := by omega
        go_wp2_with fail
        refine wp_region_tablesN Grew 13 [[], [0], [], [2], [], [2, 3, 4], [2, 3, 4, 5], [], [7], [], [7, 8, 9], [2, 3, 4, 5, 6, 7, 8, 9, 10], [2, 3, 4, 5, 6, 7, 8, 9, 10, 11], [0, 1, 2, 3, 4, 5, 6, 7, 8, 9, 10, 11, 12], [0, 1, 2, 3, 4, 5, 6, 7, 8, 9, 10, 11, 12, 13], [0, 1, 2, 3, 4, 5, 6, 7, 8, 9, 10, 11, 12, 13, 14]] [[(28, 2), (29, 3), (30, 4), (31, 5), (32, 6), (33, 7), (34, 8), (35, 9), (36, 10), (37, 11), (38, 12)], [(26, 0), (28, 2), (29, 3), (30, 4), (31, 5), (32, 6), (33, 7), (34, 8), (35, 9), (36, 10), (37, 11), (38, 12)], [(26, 0), (27, 1), (30, 4), (33, 7), (34, 8), (35, 9), (36, 10)], [(26, 0), (27, 1), (28, 2), (30, 4), (33, 7), (34, 8), (35, 9), (36, 10)], [(26, 0), (27, 1), (28, 2), (29, 3), (33, 7), (34, 8), (35, 9), (36, 10)], [(26, 0), (27, 1), (28, 2), (29, 3), (30, 4), (33, 7), (34, 8), (35, 9), (36, 10)], [(26, 0), (27, 1), (28, 2), (29, 3), (30, 4), (31, 5), (33, 7), (34, 8), (35, 9), (36, 10)], [(26, 0), (27, 1), (28, 2), (29, 3), (30, 4), (31, 5), (32, 6), (35, 9)], [(26, 0), (27, 1), (28, 2), (29, 3), (30, 4), (31, 5), (32, 6), (33, 7), (35, 9)], [(26, 0), (27, 1), (28, 2), (29, 3), (30, 4), (31, 5), (32, 6), (33, 7), (34, 8)], [(26, 0), (27, 1), (28, 2), (29, 3), (30, 4), (31, 5), (32, 6), (33, 7), (34, 8), (35, 9)], [(26, 0), (27, 1), (28, 2), (29, 3), (30, 4), (31, 5), (32, 6), (33, 7), (34, 8), (35, 9), (36, 10)], [(26, 0), (27, 1), (28, 2), (29, 3), (30, 4), (31, 5), (32, 6), (33, 7), (34, 8), (35, 9), (36, 10), (37, 11)], [(26, 0), (27, 1), (28, 2), (29, 3), (30, 4), (31, 5), (32, 6), (33, 7), (34, 8), (35, 9), (36, 10), (37, 11), (38, 12)], [(26, 0), (27, 1), (28, 2), (29, 3), (30, 4), (31, 5), (32, 6), (33, 7), (34, 8), (35, 9), (36, 10), (37, 11), (38, 12), (39, 13)], [(26, 0), (27, 1), (28, 2), (29, 3), (30, 4), (31, 5), (32, 6), (33, 7), (34, 8), (35, 9), (36, 10), (37, 11), (38, 12), (39, 13), (40, 14)]] [(26, 0), (27, 1), (28, 2), (29, 3), (30, 4), (31, 5), (32, 6), (33, 7), (34, 8), (35, 9), (36, 10), (37, 11), (38, 12)]
          [Is (.pointer (some ⟨g, 5, none⟩)), Is (.slice ga kk gc), Is (.pointer (some ⟨N, 5, none⟩)), Is (.slice (some ⟨b, off, none⟩) l.length c5), Is (.int .i64 (kk : Int)), Is (.pointer (some ⟨b, off + kk * 6, none⟩)), Is (.agg #[.int .i64 xk, .int .i64 xn, .int .u64 xu, .string xs, .slice xa4 xn4 xc4, .slice xa5 xn5 xc5]), Is (.int .i64 by_), Is (.int .i64 (by_ / 2)), Is (.int .i64 (kk : Int)), Is (.int .i64 (by_ / 2 + (kk : Int))), fun v w => ∃ Sx, OwnT w wr.heap.size (retT x (by_ / 2 + (kk : Int))) v Sx ∧ ∀ q, Sx q → wr.heap.size ≤ q ∧ q < w.heap.size, fun v w => ∃ h xv Sx, v = .slice (some ⟨h, 0, none⟩) 1 1 ∧ w.heap[h]? = some (rowN xv) ∧ OwnT w wr.heap.size (retT x (by_ / 2 + (kk : Int))) xv Sx ∧ ∀ q, Sx q → wr.heap.size ≤ q ∧ q < w.heap.size]
          (by kernel_rfl) Grew.trans Grew.refl (Grew.refl _).drew (by kernel_rfl) ⟨is_st, is_st, is_st, is_st, is_st, is_st, is_st, is_st, is_st, is_st, is_st, fun v w w' hg ⟨Sx, h, hb⟩ => ⟨Sx, h.grew hg, fun q hq => ⟨(hb q hq).1, Nat.lt_of_lt_of_le (hb q hq).2 hg.size⟩⟩, fun v w w' hg ⟨h', xv, Sx, e, hr, h, hb⟩ => ⟨h', xv, Sx, e, hg.heap hr, h.grew hg, fun q hq => ⟨(hb q hq).1, Nat.lt_of_lt_of_le (hb q hq).2 hg.size⟩⟩, trivial⟩ rfl ?_ ?_
        rotate_left
        · intro y w2 hG hF
          simp only [factsH, Is, and_true, Nat.reduceAdd] at hF
          have h0 := hF.1
          have h1 := hF.2.1
          have h2 := hF.2.2.1
          have h3 := hF.2.2.2.1
          have h4 := hF.2.2.2.2.1
          have h5 := hF.2.2.2.2.2.1
          have h6 := hF.2.2.2.2.2.2.1
          have h7 := hF.2.2.2.2.2.2.2.1
          have h8 := hF.2.2.2.2.2.2.2.2.1
          have h9 := hF.2.2.2.2.2.2.2.2.2.1
          have h10 := hF.2.2.2.2.2.2.2.2.2.2.1
          have h11 := hF.2.2.2.2.2.2.2.2.2.2.2.1
          have h12 := hF.2.2.2.2.2.2.2.2.2.2.2.2
          clear hF
          simp only [fillL, Act.put, List.setIfInBounds_toArray, List.set_cons_zero, List.set_cons_succ, List.getD_cons_zero, List.getD_cons_succ, List.drop_succ_cons, List.drop_zero]
          simp only [h0, h1, h2, h3, h4, h5, h6, h7, h8, h9, h10]
          clear h0 h1 h2 h3 h4 h5 h6 h7 h8 h9 h10
          obtain ⟨h, yv, Sx, hs12, hrh, hox, hSx⟩ := h12
          rw [hs12]
          clear hs12 h11
          obtain ⟨q1, q2, q3, q4, hg3⟩ := HQ.out
          have hl4 : vs4.length = kk := by rw [q2.length, retL_length, List.length_take]; omega
          refine wpList_appendN rfl _ _ rfl w3.heap.size _ vs4 rfl (q1.grew hG) h 1 yv rfl hrh hox.node6 (by omega) (Nat.le_trans q4.size hG.size) ?_
          intro v' w5 hown5 hgr5 hnx5
          obtain ⟨va2, vc2, hv5, _, _, _⟩ := rows_form hown5.1
          rw [List.length_append, hl4] at hv5
          simp only [List.length_cons, List.length_nil, Nat.zero_add] at hv5
          rw [hv5] at hown5 hnx5 ⊢
          have hbl : ∀ e, (Value.slice ga kk gc).ownBlock = some e → e ≠ g := fun e he => by have := World.ownsRow.lt q1.1 e he; omega
          have hrow5 := (Moved.of_grown hgr5).heap (hG.heap HROWG.out) (fun e => hbl g e.symm rfl)
          have HROW5 := Lib.hid hrow5
          have hf5 := row_frozen hrow5 5
          have hc5 := row_cellT hrow5 5 _ rfl
          have HREL : Hid (RetI w3 (w5.setCell ⟨g, 5, none⟩ (.slice va2 (kk + 1) vc2)) g N k n u s (.slice va keys.length vc) l (by_ / 2) (kk + 1)) := by
            refine ⟨va2, vc2, ?_, ?_⟩
            · have := heap_setCell_same w5 g 5 _ _ (.slice va2 (kk + 1) vc2) HROW5.out
              simpa using this
            · rw [← HX.out, retL_snoc, List.length_take, Nat.zero_add, Nat.min_eq_left (by omega)]
              exact Grow.field hg3 vs4 S4 q2 q1 q3 q4 hG hox hSx hown5 hgr5 hnx5
          clear q1 q2 q3 q4 hg3 hown5 hgr5 hnx5 hrow5 hbl hv5 hl4 hox hSx hrh e0 e1 e2 e3 e4 e5 r5 b5 hwa hwd hG
          go_wp2_with fail
          go_roundw
          case rel => exact ⟨kk + 1, by omega, by go_num, HREL.out⟩
          case measure => simp [intOf]; omega
        refine ⟨?_, ?_⟩
        · intro y w2 hG hD K hK
          simp only [fillL, Act.put, List.setIfInBounds_toArray, List.set_cons_zero, List.set_cons_succ, List.getD_cons_zero, List.getD_cons_succ, Is] at hK ⊢
          refine ite_yes (by rfl) ?_
          go_simp
          exact hK _ _ _ rfl (Grew.refl _) rfl
        refine ⟨?_, ?_⟩
        · intro y w2 hG hD K hK
          simp only [depsH, List.getD_cons_zero, List.getD_cons_succ, Is, and_true] at hD
          have h0 := hD
          clear hD
          have dr5 := hG.cell r5
          simp only [fillL, Act.put, List.setIfInBounds_toArray, List.set_cons_zero, List.set_cons_succ, List.getD_cons_zero, List.getD_cons_succ, Is] at hK ⊢
          simp only [h0] at hK ⊢
          clear h0
          refine ite_yes (by rfl) ?_
          go_simp
          exact hK _ _ _ rfl (Grew.refl _) rfl
        refine ⟨?_, ?_⟩
        · intro y w2 hG hD K hK
          simp only [fillL, Act.put, List.setIfInBounds_toArray, List.set_cons_zero, List.set_cons_succ, List.getD_cons_zero, List.getD_cons_succ, Is] at hK ⊢
          refine ite_yes (by rfl) ?_
          go_simp
          exact hK _ _ _ rfl (Grew.refl _) rfl
        refine ⟨?_, ?_⟩
        · intro y w2 hG hD K hK
          simp only [depsH, List.getD_cons_zero, List.getD_cons_succ, Is, and_true] at hD
          have h2 := hD
          clear hD
          have db5 := hG.cell b5
          simp only [fillL, Act.put, List.setIfInBounds_toArray, List.set_cons_zero, List.set_cons_succ, List.getD_cons_zero, List.getD_cons_succ, Is] at hK ⊢
          simp only [h2] at hK ⊢
          clear h2
          refine ite_yes (by rfl) ?_
          go_simp
          exact hK _ _ _ rfl (Grew.refl _) rfl
        refine ⟨?_, ?_⟩
        · intro y w2 hG hD K hK
          simp only [fillL, Act.put, List.setIfInBounds_toArray, List.set_cons_zero, List.set_cons_succ, List.getD_cons_zero, List.getD_cons_succ, Is] at hK ⊢
          refine ite_yes (by rfl) ?_
          go_simp
          exact hK _ _ _ rfl (Grew.refl _) rfl
        refine ⟨?_, ?_⟩
        · intro y w2 hG hD K hK
          simp only [depsH, List.getD_cons_zero, List.getD_cons_succ, Is, and_true] at hD
          have h2 := hD.1
          have h3 := hD.2.1
          have h4 := hD.2.2
          clear hD
          simp only [fillL, Act.put, List.setIfInBounds_toArray, List.set_cons_zero, List.set_cons_succ, List.getD_cons_zero, List.getD_cons_succ, Is] at hK ⊢
          simp only [h2, h3, h4] at hK ⊢
          clear h2 h3 h4
          refine ite_yes (by rfl) ?_
          go_simp
          exact hK _ _ _ rfl (Grew.refl _) rfl
        refine ⟨?_, ?_⟩
        · intro y w2 hG hD K hK
          simp only [depsH, List.getD_cons_zero, List.getD_cons_succ, Is, and_true] at hD
          have h2 := hD.1
          have h3 := hD.2.1
          have h4 := hD.2.2.1
          have h5 := hD.2.2.2
          clear hD
          have de0 := hG.cell e0
          have de1 := hG.cell e1
          have de2 := hG.cell e2
          have de3 := hG.cell e3
          have de4 := hG.cell e4
          have de5 := hG.cell e5
          simp only [fillL, Act.put, List.setIfInBounds_toArray, List.set_cons_zero, List.set_cons_succ, List.getD_cons_zero, List.getD_cons_succ, Is] at hK ⊢
          simp only [h2, h3, h4, h5] at hK ⊢
          clear h2 h3 h4 h5
          refine ite_yes (by rfl) ?_
          go_simp
          exact hK _ _ _ rfl (Grew.refl _) rfl
        refine ⟨?_, ?_⟩
        · intro y w2 hG hD K hK
          simp only [fillL, Act.put, List.setIfInBounds_toArray, List.set_cons_zero, List.set_cons_succ, List.getD_cons_zero, List.getD_cons_succ, Is] at hK ⊢
          refine ite_yes (by rfl) ?_
          go_simp
          exact hK _ _ _ rfl (Grew.refl _) rfl
        refine ⟨?_, ?_⟩
        · intro y w2 hG hD K hK
          simp only [depsH, List.getD_cons_zero, List.getD_cons_succ, Is, and_true] at hD
          have h7 := hD
          clear hD
          simp only [fillL, Act.put, List.setIfInBounds_toArray, List.set_cons_zero, List.set_cons_succ, List.getD_cons_zero, List.getD_cons_succ, Is] at hK ⊢
          simp only [h7] at hK ⊢
          clear h7
          refine ite_yes (by rfl) ?_
          go_simp
          exact hK _ _ _ rfl (Grew.refl _) rfl
        refine ⟨?_, ?_⟩
        · intro y w2 hG hD K hK
          simp only [fillL, Act.put, List.setIfInBounds_toArray, List.set_cons_zero, List.set_cons_succ, List.getD_cons_zero, List.getD_cons_succ, Is] at hK ⊢
          refine ite_yes (by rfl) ?_
          go_simp
          exact hK _ _ _ rfl (Grew.refl _) rfl
        refine ⟨?_, ?_⟩
        · intro y w2 hG hD K hK
          simp only [depsH, List.getD_cons_zero, List.getD_cons_succ, Is, and_true] at hD
          have h7 := hD.1
          have h8 := hD.2.1
          have h9 := hD.2.2
          clear hD
          simp only [fillL, Act.put, List.setIfInBounds_toArray, List.set_cons_zero, List.set_cons_succ, List.getD_cons_zero, List.getD_cons_succ, Is] at hK ⊢
          simp only [h7, h8, h9] at hK ⊢
          clear h7 h8 h9
          refine ite_yes (by rfl) ?_
          go_simp
          exact hK _ _ _ rfl (Grew.refl _) rfl
        refine ⟨?_, ?_⟩
        · intro y w2 hG hD K hK
          simp only [depsH, List.getD_cons_zero, List.getD_cons_succ, Is, and_true] at hD
          have h2 := hD.1
          have h3 := hD.2.1
          have h4 := hD.2.2.1
          have h5 := hD.2.2.2.1
          have h6 := hD.2.2.2.2.1
          have h7 := hD.2.2.2.2.2.1
          have h8 := hD.2.2.2.2.2.2.1
          have h9 := hD.2.2.2.2.2.2.2.1
          have h10 := hD.2.2.2.2.2.2.2.2
          clear hD
          simp only [fillL, Act.put, List.setIfInBounds_toArray, List.set_cons_zero, List.set_cons_succ, List.getD_cons_zero, List.getD_cons_succ, Is] at hK ⊢
          simp only [h2, h3, h4, h5, h6, h7, h8, h9, h10] at hK ⊢
          clear h2 h3 h4 h5 h6 h7 h8 h9 h10
          refine ite_yes (by rfl) ?_
          go_simp
          refine (HIH.out x HXS.out (by_ / 2 + (kk : Int)) _ w2 (hcall.out w2 (HGW.out.trans hG)) HFX.out (by omega) (by omega)).mono ?_
          rintro r w4 ⟨yv, rfl, hox, hg4⟩
          exact hK _ _ _ rfl hg4 ⟨_, hox.base hG.size, fun q hq => ⟨Nat.le_trans hG.size hq.1, hq.2⟩⟩
        refine ⟨?_, ?_⟩
        · intro y w2 hG hD K hK
          simp only [depsH, List.getD_cons_zero, List.getD_cons_succ, Is, and_true] at hD
          have h2 := hD.1
          have h3 := hD.2.1
          have h4 := hD.2.2.1
          have h5 := hD.2.2.2.1
          have h6 := hD.2.2.2.2.1
          have h7 := hD.2.2.2.2.2.1
          have h8 := hD.2.2.2.2.2.2.1
          have h9 := hD.2.2.2.2.2.2.2.1
          have h10 := hD.2.2.2.2.2.2.2.2.1
          have h11 := hD.2.2.2.2.2.2.2.2.2
          clear hD
          simp only [fillL, Act.put, List.setIfInBounds_toArray, List.set_cons_zero, List.set_cons_succ, List.getD_cons_zero, List.getD_cons_succ, Is] at hK ⊢
          simp only [h2, h3, h4, h5, h6, h7, h8, h9, h10] at hK ⊢
          clear h2 h3 h4 h5 h6 h7 h8 h9 h10
          refine ite_yes (by rfl) ?_
          obtain ⟨Sx, ho, hb⟩ := h11
          obtain ⟨rk, rn, ru, rs, ra4, rn4, rc4, ra5, rn5, rc5, e⟩ := ho.node6
          rw [e] at hK ho ⊢
          go_simp
          exact hK _ _ _ rfl ((Grew.refl _).alloc _) ⟨_, _, _, rfl, heap_alloc_new _ _, ho.grew ((Grew.refl _).alloc _), fun q hq => ⟨(hb q hq).1, Nat.lt_of_lt_of_le (hb q hq).2 ((Grew.refl w2).alloc _).size⟩⟩
        trivial
      · have ek : kk = l.length := by omega
        subst ek
        obtain ⟨q1, q2, q3, q4, hg3⟩ := HQ.out
        have HE : Hid (Grow (fun e => e = g) w3 wr (.slice ga l.length gc) (retL l (by_ / 2) 0)) := ⟨vs4, S4, q1, by rw [List.take_length] at q2; exact q2, q3, q4⟩
        have HKVW : Hid (OwnS wr (N + 2) (.slice va keys.length vc) keys) := Moved.owns q4 HKV.out (fun q hq e => not_block HKV.out HROW.out (by decide) (by rw [hq, e]))
        have HG3' : Hid (g < w3.heap.size) := hg3
        clear q1 q2 q3 q4 hg3 b5
        have d0 := row_cellT HBX.out 0 _ rfl
        have d1 := row_cellT HBX.out 1 _ rfl
        have d2 := row_cellT HBX.out 2 _ rfl
        have d3 := row_cellT HBX.out 3 _ rfl
        have d4 := row_cellT HBX.out 4 _ rfl
        have d5 := row_cellT HBX.out 5 _ rfl
        have z0 := row_cellT HRX.out 0 _ rfl
        have z1 := row_cellT HRX.out 1 _ rfl
        have z2 := row_cellT HRX.out 2 _ rfl
        have z3 := row_cellT HRX.out 3 _ rfl
        have z4 := row_cellT HRX.out 4 _ rfl
        have z5 := row_cellT HRX.out 5 _ rfl
        have r0 := row_frozen HRX.out 0
        have r1 := row_frozen HRX.out 1
        have r2 := row_frozen HRX.out 2
        have r3 := row_frozen HRX.out 3
        have r4 := row_frozen HRX.out 4
        have r5 := row_frozen HRX.out 5
        have o0 := row_cellT HROWG.out 0 _ rfl
        have o1 := row_cellT HROWG.out 1 _ rfl
        have o2 := row_cellT HROWG.out 2 _ rfl
        have o3 := row_cellT HROWG.out 3 _ rfl
        have o4 := row_cellT HROWG.out 4 _ rfl
        have o5 := row_cellT HROWG.out 5 _ rfl
        have p0 := row_frozen HROWG.out 0
        have hne : ¬ g = N + 1 := by have := hgN.out; omega
        have hne2 : ¬ N + 1 = g := by have := hgN.out; omega
        by_cases ck : k = 3
        · subst ck
          have hm3 : by_ % 3 = 0 ∨ by_ % 3 = 1 ∨ by_ % 3 = 2 := by omega
          have ht3 : Int.tmod by_ 3 = by_ % 3 := Int.tmod_eq_emod_of_nonneg hby0
          rcases hm3 with hm | hm | hm
          · rw [hm] at ht3
            have HFIN : Hid (OwnT (store6 wr (N + 1) (.int .i64 3) (.int .i64 n) (.int .u64 u) (.string s) (.slice va keys.length vc) (.slice ga l.length gc)) w.heap.size (retT (.mk 3 n u s keys l) by_) (.agg #[.int .i64 3, .int .i64 n, .int .u64 u, .string s, .slice va keys.length vc, .slice ga l.length gc]) (Fresh w (store6 wr (N + 1) (.int .i64 3) (.int .i64 n) (.int .u64 u) (.string s) (.slice va keys.length vc) (.slice ga l.length gc))) ∧ Grew w (store6 wr (N + 1) (.int .i64 3) (.int .i64 n) (.int .u64 u) (.string s) (.slice va keys.length vc) (.slice ga l.length gc))) := by
              have hN := HN.out
              have hgn := hgN.out
              have hret : retT (.mk 3 n u s keys l) by_ = (.mk 3 n u s keys (retL l (by_ / 2) 0)) := by rw [retT]; rw [if_neg (by omega), if_neg (by omega), if_neg (by omega), if_neg (by omega), if_neg (by omega)]
              rw [hret]
              have hT : Moved (fun q => q = g ∨ q = N + 1) wr (store6 wr (N + 1) (.int .i64 3) (.int .i64 n) (.int .u64 u) (.string s) (.slice va keys.length vc) (.slice ga l.length gc)) := Moved.mono (moved_store6 wr (N + 1) (.int .i64 3) (.int .i64 n) (.int .u64 u) (.string s) (.slice va keys.length vc) (.slice ga l.length gc)) (fun q _ e => .inr e)
              have h3 := HG3'.out
              have h4 : N + 1 < w3.heap.size := (Array.getElem?_eq_some_iff.1 HB2'.out).1
              have hTW : Grew w (store6 wr (N + 1) (.int .i64 3) (.int .i64 n) (.int .u64 u) (.string s) (.slice va keys.length vc) (.slice ga l.length gc)) := Moved.fresh HGW.out hT (fun q hq => by rcases hq with rfl | rfl <;> omega)
              refine ⟨Grow.tree ((HE.out.wider (T := fun q => q = g ∨ q = N + 1) (fun _ h => .inl h)).kept hT (fun q hq => by rcases hq with rfl | rfl <;> omega) (fun _ h => h)) ⟨HB.out.1, HB.out.2.1, HB.out.2.2.1, HB.out.2.2.2, hkz.out⟩ HG3.out.size ?_ (fun q hq => (World.ownsRow.lt HKV.out q hq).2), hTW⟩
              refine rows_base (Moved.owns hT HKVW.out (fun q hq e => ?_)) (by omega)
              rcases e with rfl | rfl
              · exact not_block HKVW.out HROWG.out (by decide) hq
              · exact not_block HKVW.out HRX.out (by decide) hq
            clear HE HKVW
            go_wp2_with fail
            refine bodyPost_ret (v := .agg #[.int .i64 3, .int .i64 n, .int .u64 u, .string s, .slice va keys.length vc, .slice ga l.length gc]) (by simp [results, Try.results19, go_sem, z0, z1, z2, z3, z4, z5, hne, hne2]) rfl ?_
            exact ⟨_, rfl, HFIN.out.1, HFIN.out.2⟩
          · rw [hm] at ht3
            by_cases hn0 : 0 ≤ n
            · skip
              have hwn : IntKind.u64.wrap n = n := by rw [IntKind.wrap_u64]; have := HB.out.2.1; unfold i64ok at this; omega
              have HFIN : Hid (OwnT (store6 wr (N + 1) (.int .i64 4) (.int .i64 0) (.int .u64 n) (.string ⟨#[]⟩) (.slice none 0 0) (.slice none 0 0)) w.heap.size (retT (.mk 3 n u s keys l) by_) (.agg #[.int .i64 4, .int .i64 0, .int .u64 n, .string ⟨#[]⟩, .slice none 0 0, .slice none 0 0]) (Fresh w (store6 wr (N + 1) (.int .i64 4) (.int .i64 0) (.int .u64 n) (.string ⟨#[]⟩) (.slice none 0 0) (.slice none 0 0))) ∧ Grew w (store6 wr (N + 1) (.int .i64 4) (.int .i64 0) (.int .u64 n) (.string ⟨#[]⟩) (.slice none 0 0) (.slice none 0 0))) := by
                have hN := HN.out
                have hgn := hgN.out
                have hret : retT (.mk 3 n u s keys l) by_ = (.mk 4 0 n ⟨#[]⟩ [] []) := by rw [retT]; rw [if_pos (by omega)]
                rw [hret]
                have hT := moved_store6 wr (N + 1) (.int .i64 4) (.int .i64 0) (.int .u64 n) (.string ⟨#[]⟩) (.slice none 0 0) (.slice none 0 0)
                exact ⟨(own_leaf ⟨(by unfold i64ok; omega), (by unfold i64ok; omega), (by have := HB.out.2.1; unfold i64ok at this; unfold u64ok; omega), (by unfold lenok; decide)⟩).mono (fun _ h => h.elim), Moved.fresh HGW.out hT (fun q e => by omega)⟩
              clear HE HKVW
              go_wp2_with fail
              refine bodyPost_ret (v := .agg #[.int .i64 4, .int .i64 0, .int .u64 n, .string ⟨#[]⟩, .slice none 0 0, .slice none 0 0]) (by simp [results, Try.results19, go_sem, z0, z1, z2, z3, z4, z5, hne, hne2]) rfl ?_
              exact ⟨_, rfl, HFIN.out.1, HFIN.out.2⟩
            · skip
              have HFIN : Hid (OwnT (store6 wr (N + 1) (.int .i64 3) (.int .i64 n) (.int .u64 u) (.string s) (.slice va keys.length vc) (.slice ga l.length gc)) w.heap.size (retT (.mk 3 n u s keys l) by_) (.agg #[.int .i64 3, .int .i64 n, .int .u64 u, .string s, .slice va keys.length vc, .slice ga l.length gc]) (Fresh w (store6 wr (N + 1) (.int .i64 3) (.int .i64 n) (.int .u64 u) (.string s) (.slice va keys.length vc) (.slice ga l.length gc))) ∧ Grew w (store6 wr (N + 1) (.int .i64 3) (.int .i64 n) (.int .u64 u) (.string s) (.slice va keys.length vc) (.slice ga l.length gc))) := by
                have hN := HN.out
                have hgn := hgN.out
                have hret : retT (.mk 3 n u s keys l) by_ = (.mk 3 n u s keys (retL l (by_ / 2) 0)) := by rw [retT]; rw [if_neg (by omega), if_neg (by omega), if_neg (by omega), if_neg (by omega), if_neg (by omega)]
                rw [hret]
                have hT : Moved (fun q => q = g ∨ q = N + 1) wr (store6 wr (N + 1) (.int .i64 3) (.int .i64 n) (.int .u64 u) (.string s) (.slice va keys.length vc) (.slice ga l.length gc)) := Moved.mono (moved_store6 wr (N + 1) (.int .i64 3) (.int .i64 n) (.int .u64 u) (.string s) (.slice va keys.length vc) (.slice ga l.length gc)) (fun q _ e => .inr e)
                have h3 := HG3'.out
                have h4 : N + 1 < w3.heap.size := (Array.getElem?_eq_some_iff.1 HB2'.out).1
                have hTW : Grew w (store6 wr (N + 1) (.int .i64 3) (.int .i64 n) (.int .u64 u) (.string s) (.slice va keys.length vc) (.slice ga l.length gc)) := Moved.fresh HGW.out hT (fun q hq => by rcases hq with rfl | rfl <;> omega)
                refine ⟨Grow.tree ((HE.out.wider (T := fun q => q = g ∨ q = N + 1) (fun _ h => .inl h)).kept hT (fun q hq => by rcases hq with rfl | rfl <;> omega) (fun _ h => h)) ⟨HB.out.1, HB.out.2.1, HB.out.2.2.1, HB.out.2.2.2, hkz.out⟩ HG3.out.size ?_ (fun q hq => (World.ownsRow.lt HKV.out q hq).2), hTW⟩
                refine rows_base (Moved.owns hT HKVW.out (fun q hq e => ?_)) (by omega)
                rcases e with rfl | rfl
                · exact not_block HKVW.out HROWG.out (by decide) hq
                · exact not_block HKVW.out HRX.out (by decide) hq
              clear HE HKVW
              go_wp2_with fail
              refine bodyPost_ret (v := .agg #[.int .i64 3, .int .i64 n, .int .u64 u, .string s, .slice va keys.length vc, .slice ga l.length gc]) (by simp [results, Try.results19, go_sem, z0, z1, z2, z3, z4, z5, hne, hne2]) rfl ?_
              exact ⟨_, rfl, HFIN.out.1, HFIN.out.2⟩
          · rw [hm] at ht3
            have HFIN : Hid (OwnT (store6 wr (N + 1) (.int .i64 8) (.int .i64 n) (.int .u64 0) (.string ⟨#[]⟩) (.slice none 0 0) (.slice none 0 0)) w.heap.size (retT (.mk 3 n u s keys l) by_) (.agg #[.int .i64 8, .int .i64 n, .int .u64 0, .string ⟨#[]⟩, .slice none 0 0, .slice none 0 0]) (Fresh w (store6 wr (N + 1) (.int .i64 8) (.int .i64 n) (.int .u64 0) (.string ⟨#[]⟩) (.slice none 0 0) (.slice none 0 0))) ∧ Grew w (store6 wr (N + 1) (.int .i64 8) (.int .i64 n) (.int .u64 0) (.string ⟨#[]⟩) (.slice none 0 0) (.slice none 0 0))) := by
              have hN := HN.out
              have hgn := hgN.out
              have hret : retT (.mk 3 n u s keys l) by_ = (.mk 8 n 0 ⟨#[]⟩ [] []) := by rw [retT]; rw [if_neg (by omega), if_pos (by omega)]
              rw [hret]
              have hT := moved_store6 wr (N + 1) (.int .i64 8) (.int .i64 n) (.int .u64 0) (.string ⟨#[]⟩) (.slice none 0 0) (.slice none 0 0)
              exact ⟨(own_leaf ⟨(by unfold i64ok; omega), HB.out.2.1, (by unfold u64ok; omega), (by unfold lenok; decide)⟩).mono (fun _ h => h.elim), Moved.fresh HGW.out hT (fun q e => by omega)⟩
            clear HE HKVW
            go_wp2_with fail
            refine bodyPost_ret (v := .agg #[.int .i64 8, .int .i64 n, .int .u64 0, .string ⟨#[]⟩, .slice none 0 0, .slice none 0 0]) (by simp [results, Try.results19, go_sem, z0, z1, z2, z3, z4, z5, hne, hne2]) rfl ?_
            exact ⟨_, rfl, HFIN.out.1, HFIN.out.2⟩
        by_cases ck8 : k = 8
        · subst ck8
          clear ck
          have hm3 : by_ % 3 = 0 ∨ by_ % 3 = 1 ∨ by_ % 3 = 2 := by omega
          have ht3 : Int.tmod by_ 3 = by_ % 3 := Int.tmod_eq_emod_of_nonneg hby0
          rcases hm3 with hm | hm | hm
          · rw [hm] at ht3
            have HFIN : Hid (OwnT (store6 wr (N + 1) (.int .i64 8) (.int .i64 n) (.int .u64 u) (.string s) (.slice va keys.length vc) (.slice ga l.length gc)) w.heap.size (retT (.mk 8 n u s keys l) by_) (.agg #[.int .i64 8, .int .i64 n, .int .u64 u, .string s, .slice va keys.length vc, .slice ga l.length gc]) (Fresh w (store6 wr (N + 1) (.int .i64 8) (.int .i64 n) (.int .u64 u) (.string s) (.slice va keys.length vc) (.slice ga l.length gc))) ∧ Grew w (store6 wr (N + 1) (.int .i64 8) (.int .i64 n) (.int .u64 u) (.string s) (.slice va keys.length vc) (.slice ga l.length gc))) := by
              have hN := HN.out
              have hgn := hgN.out
              have hret : retT (.mk 8 n u s keys l) by_ = (.mk 8 n u s keys (retL l (by_ / 2) 0)) := by rw [retT]; rw [if_neg (by omega), if_neg (by omega), if_neg (by omega), if_neg (by omega), if_neg (by omega)]
              rw [hret]
              have hT : Moved (fun q => q = g ∨ q = N + 1) wr (store6 wr (N + 1) (.int .i64 8) (.int .i64 n) (.int .u64 u) (.string s) (.slice va keys.length vc) (.slice ga l.length gc)) := Moved.mono (moved_store6 wr (N + 1) (.int .i64 8) (.int .i64 n) (.int .u64 u) (.string s) (.slice va keys.length vc) (.slice ga l.length gc)) (fun q _ e => .inr e)
              have h3 := HG3'.out
              have h4 : N + 1 < w3.heap.size := (Array.getElem?_eq_some_iff.1 HB2'.out).1
              have hTW : Grew w (store6 wr (N + 1) (.int .i64 8) (.int .i64 n) (.int .u64 u) (.string s) (.slice va keys.length vc) (.slice ga l.length gc)) := Moved.fresh HGW.out hT (fun q hq => by rcases hq with rfl | rfl <;> omega)
              refine ⟨Grow.tree ((HE.out.wider (T := fun q => q = g ∨ q = N + 1) (fun _ h => .inl h)).kept hT (fun q hq => by rcases hq with rfl | rfl <;> omega) (fun _ h => h)) ⟨HB.out.1, HB.out.2.1, HB.out.2.2.1, HB.out.2.2.2, hkz.out⟩ HG3.out.size ?_ (fun q hq => (World.ownsRow.lt HKV.out q hq).2), hTW⟩
              refine rows_base (Moved.owns hT HKVW.out (fun q hq e => ?_)) (by omega)
              rcases e with rfl | rfl
              · exact not_block HKVW.out HROWG.out (by decide) hq
              · exact not_block HKVW.out HRX.out (by decide) hq
            clear HE HKVW
            go_wp2_with fail
            refine bodyPost_ret (v := .agg #[.int .i64 8, .int .i64 n, .int .u64 u, .string s, .slice va keys.length vc, .slice ga l.length gc]) (by simp [results, Try.results19, go_sem, z0, z1, z2, z3, z4, z5, hne, hne2]) rfl ?_
            exact ⟨_, rfl, HFIN.out.1, HFIN.out.2⟩
          · rw [hm] at ht3
            by_cases hn0 : 0 ≤ n
            · skip
              have hwn : IntKind.u64.wrap n = n := by rw [IntKind.wrap_u64]; have := HB.out.2.1; unfold i64ok at this; omega
              have HFIN : Hid (OwnT (store6 wr (N + 1) (.int .i64 4) (.int .i64 0) (.int .u64 n) (.string ⟨#[]⟩) (.slice none 0 0) (.slice none 0 0)) w.heap.size (retT (.mk 8 n u s keys l) by_) (.agg #[.int .i64 4, .int .i64 0, .int .u64 n, .string ⟨#[]⟩, .slice none 0 0, .slice none 0 0]) (Fresh w (store6 wr (N + 1) (.int .i64 4) (.int .i64 0) (.int .u64 n) (.string ⟨#[]⟩) (.slice none 0 0) (.slice none 0 0))) ∧ Grew w (store6 wr (N + 1) (.int .i64 4) (.int .i64 0) (.int .u64 n) (.string ⟨#[]⟩) (.slice none 0 0) (.slice none 0 0))) := by
                have hN := HN.out
                have hgn := hgN.out
                have hret : retT (.mk 8 n u s keys l) by_ = (.mk 4 0 n ⟨#[]⟩ [] []) := by rw [retT]; rw [if_pos (by omega)]
                rw [hret]
                have hT := moved_store6 wr (N + 1) (.int .i64 4) (.int .i64 0) (.int .u64 n) (.string ⟨#[]⟩) (.slice none 0 0) (.slice none 0 0)
                exact ⟨(own_leaf ⟨(by unfold i64ok; omega), (by unfold i64ok; omega), (by have := HB.out.2.1; unfold i64ok at this; unfold u64ok; omega), (by unfold lenok; decide)⟩).mono (fun _ h => h.elim), Moved.fresh HGW.out hT (fun q e => by omega)⟩
              clear HE HKVW
              go_wp2_with fail
              refine bodyPost_ret (v := .agg #[.int .i64 4, .int .i64 0, .int .u64 n, .string ⟨#[]⟩, .slice none 0 0, .slice none 0 0]) (by simp [results, Try.results19, go_sem, z0, z1, z2, z3, z4, z5, hne, hne2]) rfl ?_
              exact ⟨_, rfl, HFIN.out.1, HFIN.out.2⟩
            · skip
              have HFIN : Hid (OwnT (store6 wr (N + 1) (.int .i64 8) (.int .i64 n) (.int .u64 u) (.string s) (.slice va keys.length vc) (.slice ga l.length gc)) w.heap.size (retT (.mk 8 n u s keys l) by_) (.agg #[.int .i64 8, .int .i64 n, .int .u64 u, .string s, .slice va keys.length vc, .slice ga l.length gc]) (Fresh w (store6 wr (N + 1) (.int .i64 8) (.int .i64 n) (.int .u64 u) (.string s) (.slice va keys.length vc) (.slice ga l.length gc))) ∧ Grew w (store6 wr (N + 1) (.int .i64 8) (.int .i64 n) (.int .u64 u) (.string s) (.slice va keys.length vc) (.slice ga l.length gc))) := by
                have hN := HN.out
                have hgn := hgN.out
                have hret : retT (.mk 8 n u s keys l) by_ = (.mk 8 n u s keys (retL l (by_ / 2) 0)) := by rw [retT]; rw [if_neg (by omega), if_neg (by omega), if_neg (by omega), if_neg (by omega), if_neg (by omega)]
                rw [hret]
                have hT : Moved (fun q => q = g ∨ q = N + 1) wr (store6 wr (N + 1) (.int .i64 8) (.int .i64 n) (.int .u64 u) (.string s) (.slice va keys.length vc) (.slice ga l.length gc)) := Moved.mono (moved_store6 wr (N + 1) (.int .i64 8) (.int .i64 n) (.int .u64 u) (.string s) (.slice va keys.length vc) (.slice ga l.length gc)) (fun q _ e => .inr e)
                have h3 := HG3'.out
                have h4 : N + 1 < w3.heap.size := (Array.getElem?_eq_some_iff.1 HB2'.out).1
                have hTW : Grew w (store6 wr (N + 1) (.int .i64 8) (.int .i64 n) (.int .u64 u) (.string s) (.slice va keys.length vc) (.slice ga l.length gc)) := Moved.fresh HGW.out hT (fun q hq => by rcases hq with rfl | rfl <;> omega)
                refine ⟨Grow.tree ((HE.out.wider (T := fun q => q = g ∨ q = N + 1) (fun _ h => .inl h)).kept hT (fun q hq => by rcases hq with rfl | rfl <;> omega) (fun _ h => h)) ⟨HB.out.1, HB.out.2.1, HB.out.2.2.1, HB.out.2.2.2, hkz.out⟩ HG3.out.size ?_ (fun q hq => (World.ownsRow.lt HKV.out q hq).2), hTW⟩
                refine rows_base (Moved.owns hT HKVW.out (fun q hq e => ?_)) (by omega)
                rcases e with rfl | rfl
                · exact not_block HKVW.out HROWG.out (by decide) hq
                · exact not_block HKVW.out HRX.out (by decide) hq
              clear HE HKVW
              go_wp2_with fail
              refine bodyPost_ret (v := .agg #[.int .i64 8, .int .i64 n, .int .u64 u, .string s, .slice va keys.length vc, .slice ga l.length gc]) (by simp [results, Try.results19, go_sem, z0, z1, z2, z3, z4, z5, hne, hne2]) rfl ?_
              exact ⟨_, rfl, HFIN.out.1, HFIN.out.2⟩
          · rw [hm] at ht3
            have HFIN : Hid (OwnT (store6 wr (N + 1) (.int .i64 8) (.int .i64 n) (.int .u64 u) (.string s) (.slice va keys.length vc) (.slice ga l.length gc)) w.heap.size (retT (.mk 8 n u s keys l) by_) (.agg #[.int .i64 8, .int .i64 n, .int .u64 u, .string s, .slice va keys.length vc, .slice ga l.length gc]) (Fresh w (store6 wr (N + 1) (.int .i64 8) (.int .i64 n) (.int .u64 u) (.string s) (.slice va keys.length vc) (.slice ga l.length gc))) ∧ Grew w (store6 wr (N + 1) (.int .i64 8) (.int .i64 n) (.int .u64 u) (.string s) (.slice va keys.length vc) (.slice ga l.length gc))) := by
              have hN := HN.out
              have hgn := hgN.out
              have hret : retT (.mk 8 n u s keys l) by_ = (.mk 8 n u s keys (retL l (by_ / 2) 0)) := by rw [retT]; rw [if_neg (by omega), if_neg (by omega), if_neg (by omega), if_neg (by omega), if_neg (by omega)]
              rw [hret]
              have hT : Moved (fun q => q = g ∨ q = N + 1) wr (store6 wr (N + 1) (.int .i64 8) (.int .i64 n) (.int .u64 u) (.string s) (.slice va keys.length vc) (.slice ga l.length gc)) := Moved.mono (moved_store6 wr (N + 1) (.int .i64 8) (.int .i64 n) (.int .u64 u) (.string s) (.slice va keys.length vc) (.slice ga l.length gc)) (fun q _ e => .inr e)
              have h3 := HG3'.out
              have h4 : N + 1 < w3.heap.size := (Array.getElem?_eq_some_iff.1 HB2'.out).1
              have hTW : Grew w (store6 wr (N + 1) (.int .i64 8) (.int .i64 n) (.int .u64 u) (.string s) (.slice va keys.length vc) (.slice ga l.length gc)) := Moved.fresh HGW.out hT (fun q hq => by rcases hq with rfl | rfl <;> omega)
              refine ⟨Grow.tree ((HE.out.wider (T := fun q => q = g ∨ q = N + 1) (fun _ h => .inl h)).kept hT (fun q hq => by rcases hq with rfl | rfl <;> omega) (fun _ h => h)) ⟨HB.out.1, HB.out.2.1, HB.out.2.2.1, HB.out.2.2.2, hkz.out⟩ HG3.out.size ?_ (fun q hq => (World.ownsRow.lt HKV.out q hq).2), hTW⟩
              refine rows_base (Moved.owns hT HKVW.out (fun q hq e => ?_)) (by omega)
              rcases e with rfl | rfl
              · exact not_block HKVW.out HROWG.out (by decide) hq
              · exact not_block HKVW.out HRX.out (by decide) hq
            clear HE HKVW
            go_wp2_with fail
            refine bodyPost_ret (v := .agg #[.int .i64 8, .int .i64 n, .int .u64 u, .string s, .slice va keys.length vc, .slice ga l.length gc]) (by simp [results, Try.results19, go_sem, z0, z1, z2, z3, z4, z5, hne, hne2]) rfl ?_
            exact ⟨_, rfl, HFIN.out.1, HFIN.out.2⟩
        by_cases ck4 : k = 4
        · subst ck4
          clear ck ck8
          have hm3 : by_ % 3 = 0 ∨ by_ % 3 = 1 ∨ by_ % 3 = 2 := by omega
          have ht3 : Int.tmod by_ 3 = by_ % 3 := Int.tmod_eq_emod_of_nonneg hby0
          rcases hm3 with hm | hm | hm
          · rw [hm] at ht3
            have HFIN : Hid (OwnT (store6 wr (N + 1) (.int .i64 4) (.int .i64 n) (.int .u64 u) (.string s) (.slice va keys.length vc) (.slice ga l.length gc)) w.heap.size (retT (.mk 4 n u s keys l) by_) (.agg #[.int .i64 4, .int .i64 n, .int .u64 u, .string s, .slice va keys.length vc, .slice ga l.length gc]) (Fresh w (store6 wr (N + 1) (.int .i64 4) (.int .i64 n) (.int .u64 u) (.string s) (.slice va keys.length vc) (.slice ga l.length gc))) ∧ Grew w (store6 wr (N + 1) (.int .i64 4) (.int .i64 n) (.int .u64 u) (.string s) (.slice va keys.length vc) (.slice ga l.length gc))) := by
              have hN := HN.out
              have hgn := hgN.out
              have hret : retT (.mk 4 n u s keys l) by_ = (.mk 4 n u s keys (retL l (by_ / 2) 0)) := by rw [retT]; rw [if_neg (by omega), if_neg (by omega), if_neg (by omega), if_neg (by omega), if_neg (by omega)]
              rw [hret]
              have hT : Moved (fun q => q = g ∨ q = N + 1) wr (store6 wr (N + 1) (.int .i64 4) (.int .i64 n) (.int .u64 u) (.string s) (.slice va keys.length vc) (.slice ga l.length gc)) := Moved.mono (moved_store6 wr (N + 1) (.int .i64 4) (.int .i64 n) (.int .u64 u) (.string s) (.slice va keys.length vc) (.slice ga l.length gc)) (fun q _ e => .inr e)
              have h3 := HG3'.out
              have h4 : N + 1 < w3.heap.size := (Array.getElem?_eq_some_iff.1 HB2'.out).1
              have hTW : Grew w (store6 wr (N + 1) (.int .i64 4) (.int .i64 n) (.int .u64 u) (.string s) (.slice va keys.length vc) (.slice ga l.length gc)) := Moved.fresh HGW.out hT (fun q hq => by rcases hq with rfl | rfl <;> omega)
              refine ⟨Grow.tree ((HE.out.wider (T := fun q => q = g ∨ q = N + 1) (fun _ h => .inl h)).kept hT (fun q hq => by rcases hq with rfl | rfl <;> omega) (fun _ h => h)) ⟨HB.out.1, HB.out.2.1, HB.out.2.2.1, HB.out.2.2.2, hkz.out⟩ HG3.out.size ?_ (fun q hq => (World.ownsRow.lt HKV.out q hq).2), hTW⟩
              refine rows_base (Moved.owns hT HKVW.out (fun q hq e => ?_)) (by omega)
              rcases e with rfl | rfl
              · exact not_block HKVW.out HROWG.out (by decide) hq
              · exact not_block HKVW.out HRX.out (by decide) hq
            clear HE HKVW
            go_wp2_with fail
            refine bodyPost_ret (v := .agg #[.int .i64 4, .int .i64 n, .int .u64 u, .string s, .slice va keys.length vc, .slice ga l.length gc]) (by simp [results, Try.results19, go_sem, z0, z1, z2, z3, z4, z5, hne, hne2]) rfl ?_
            exact ⟨_, rfl, HFIN.out.1, HFIN.out.2⟩
          · rw [hm] at ht3
            have HFIN : Hid (OwnT (store6 wr (N + 1) (.int .i64 9) (.int .i64 0) (.int .u64 u) (.string ⟨#[]⟩) (.slice none 0 0) (.slice none 0 0)) w.heap.size (retT (.mk 4 n u s keys l) by_) (.agg #[.int .i64 9, .int .i64 0, .int .u64 u, .string ⟨#[]⟩, .slice none 0 0, .slice none 0 0]) (Fresh w (store6 wr (N + 1) (.int .i64 9) (.int .i64 0) (.int .u64 u) (.string ⟨#[]⟩) (.slice none 0 0) (.slice none 0 0))) ∧ Grew w (store6 wr (N + 1) (.int .i64 9) (.int .i64 0) (.int .u64 u) (.string ⟨#[]⟩) (.slice none 0 0) (.slice none 0 0))) := by
              have hN := HN.out
              have hgn := hgN.out
              have hret : retT (.mk 4 n u s keys l) by_ = (.mk 9 0 u ⟨#[]⟩ [] []) := by rw [retT]; rw [if_neg (by omega), if_neg (by omega), if_pos (by omega)]
              rw [hret]
              have hT := moved_store6 wr (N + 1) (.int .i64 9) (.int .i64 0) (.int .u64 u) (.string ⟨#[]⟩) (.slice none 0 0) (.slice none 0 0)
              exact ⟨(own_leaf ⟨(by unfold i64ok; omega), (by unfold i64ok; omega), HB.out.2.2.1, (by unfold lenok; decide)⟩).mono (fun _ h => h.elim), Moved.fresh HGW.out hT (fun q e => by omega)⟩
            clear HE HKVW
            go_wp2_with fail
            refine bodyPost_ret (v := .agg #[.int .i64 9, .int .i64 0, .int .u64 u, .string ⟨#[]⟩, .slice none 0 0, .slice none 0 0]) (by simp [results, Try.results19, go_sem, z0, z1, z2, z3, z4, z5, hne, hne2]) rfl ?_
            exact ⟨_, rfl, HFIN.out.1, HFIN.out.2⟩
          · rw [hm] at ht3
            have HFIN : Hid (OwnT (store6 wr (N + 1) (.int .i64 4) (.int .i64 n) (.int .u64 u) (.string s) (.slice va keys.length vc) (.slice ga l.length gc)) w.heap.size (retT (.mk 4 n u s keys l) by_) (.agg #[.int .i64 4, .int .i64 n, .int .u64 u, .string s, .slice va keys.length vc, .slice ga l.length gc]) (Fresh w (store6 wr (N + 1) (.int .i64 4) (.int .i64 n) (.int .u64 u) (.string s) (.slice va keys.length vc) (.slice ga l.length gc))) ∧ Grew w (store6 wr (N + 1) (.int .i64 4) (.int .i64 n) (.int .u64 u) (.string s) (.slice va keys.length vc) (.slice ga l.length gc))) := by
              have hN := HN.out
              have hgn := hgN.out
              have hret : retT (.mk 4 n u s keys l) by_ = (.mk 4 n u s keys (retL l (by_ / 2) 0)) := by rw [retT]; rw [if_neg (by omega), if_neg (by omega), if_neg (by omega), if_neg (by omega), if_neg (by omega)]
              rw [hret]
              have hT : Moved (fun q => q = g ∨ q = N + 1) wr (store6 wr (N + 1) (.int .i64 4) (.int .i64 n) (.int .u64 u) (.string s) (.slice va keys.length vc) (.slice ga l.length gc)) := Moved.mono (moved_store6 wr (N + 1) (.int .i64 4) (.int .i64 n) (.int .u64 u) (.string s) (.slice va keys.length vc) (.slice ga l.length gc)) (fun q _ e => .inr e)
              have h3 := HG3'.out
              have h4 : N + 1 < w3.heap.size := (Array.getElem?_eq_some_iff.1 HB2'.out).1
              have hTW : Grew w (store6 wr (N + 1) (.int .i64 4) (.int .i64 n) (.int .u64 u) (.string s) (.slice va keys.length vc) (.slice ga l.length gc)) := Moved.fresh HGW.out hT (fun q hq => by rcases hq with rfl | rfl <;> omega)
              refine ⟨Grow.tree ((HE.out.wider (T := fun q => q = g ∨ q = N + 1) (fun _ h => .inl h)).kept hT (fun q hq => by rcases hq with rfl | rfl <;> omega) (fun _ h => h)) ⟨HB.out.1, HB.out.2.1, HB.out.2.2.1, HB.out.2.2.2, hkz.out⟩ HG3.out.size ?_ (fun q hq => (World.ownsRow.lt HKV.out q hq).2), hTW⟩
              refine rows_base (Moved.owns hT HKVW.out (fun q hq e => ?_)) (by omega)
              rcases e with rfl | rfl
              · exact not_block HKVW.out HROWG.out (by decide) hq
              · exact not_block HKVW.out HRX.out (by decide) hq
            clear HE HKVW
            go_wp2_with fail
            refine bodyPost_ret (v := .agg #[.int .i64 4, .int .i64 n, .int .u64 u, .string s, .slice va keys.length vc, .slice ga l.length gc]) (by simp [results, Try.results19, go_sem, z0, z1, z2, z3, z4, z5, hne, hne2]) rfl ?_
            exact ⟨_, rfl, HFIN.out.1, HFIN.out.2⟩
        by_cases ck5 : k = 5
        · subst ck5
          clear ck ck8 ck4
          have hm3 : by_ % 2 = 0 ∨ by_ % 2 = 1 := by omega
          have ht3 : Int.tmod by_ 2 = by_ % 2 := Int.tmod_eq_emod_of_nonneg hby0
          rcases hm3 with hm | hm
          · rw [hm] at ht3
            have HFIN : Hid (OwnT (store6 wr (N + 1) (.int .i64 6) (.int .i64 0) (.int .u64 0) (.string s) (.slice none 0 0) (.slice none 0 0)) w.heap.size (retT (.mk 5 n u s keys l) by_) (.agg #[.int .i64 6, .int .i64 0, .int .u64 0, .string s, .slice none 0 0, .slice none 0 0]) (Fresh w (store6 wr (N + 1) (.int .i64 6) (.int .i64 0) (.int .u64 0) (.string s) (.slice none 0 0) (.slice none 0 0))) ∧ Grew w (store6 wr (N + 1) (.int .i64 6) (.int .i64 0) (.int .u64 0) (.string s) (.slice none 0 0) (.slice none 0 0))) := by
              have hN := HN.out
              have hgn := hgN.out
              have hret : retT (.mk 5 n u s keys l) by_ = (.mk 6 0 0 s [] []) := by rw [retT]; rw [if_neg (by omega), if_neg (by omega), if_neg (by omega), if_pos (by omega)]
              rw [hret]
              have hT := moved_store6 wr (N + 1) (.int .i64 6) (.int .i64 0) (.int .u64 0) (.string s) (.slice none 0 0) (.slice none 0 0)
              exact ⟨(own_leaf ⟨(by unfold i64ok; omega), (by unfold i64ok; omega), (by unfold u64ok; omega), HB.out.2.2.2⟩).mono (fun _ h => h.elim), Moved.fresh HGW.out hT (fun q e => by omega)⟩
            clear HE HKVW
            go_wp2_with fail
            refine bodyPost_ret (v := .agg #[.int .i64 6, .int .i64 0, .int .u64 0, .string s, .slice none 0 0, .slice none 0 0]) (by simp [results, Try.results19, go_sem, z0, z1, z2, z3, z4, z5, hne, hne2]) rfl ?_
            exact ⟨_, rfl, HFIN.out.1, HFIN.out.2⟩
          · rw [hm] at ht3
            have HFIN : Hid (OwnT (store6 wr (N + 1) (.int .i64 5) (.int .i64 n) (.int .u64 u) (.string s) (.slice va keys.length vc) (.slice ga l.length gc)) w.heap.size (retT (.mk 5 n u s keys l) by_) (.agg #[.int .i64 5, .int .i64 n, .int .u64 u, .string s, .slice va keys.length vc, .slice ga l.length gc]) (Fresh w (store6 wr (N + 1) (.int .i64 5) (.int .i64 n) (.int .u64 u) (.string s) (.slice va keys.length vc) (.slice ga l.length gc))) ∧ Grew w (store6 wr (N + 1) (.int .i64 5) (.int .i64 n) (.int .u64 u) (.string s) (.slice va keys.length vc) (.slice ga l.length gc))) := by
              have hN := HN.out
              have hgn := hgN.out
              have hret : retT (.mk 5 n u s keys l) by_ = (.mk 5 n u s keys (retL l (by_ / 2) 0)) := by rw [retT]; rw [if_neg (by omega), if_neg (by omega), if_neg (by omega), if_neg (by omega), if_neg (by omega)]
              rw [hret]
              have hT : Moved (fun q => q = g ∨ q = N + 1) wr (store6 wr (N + 1) (.int .i64 5) (.int .i64 n) (.int .u64 u) (.string s) (.slice va keys.length vc) (.slice ga l.length gc)) := Moved.mono (moved_store6 wr (N + 1) (.int .i64 5) (.int .i64 n) (.int .u64 u) (.string s) (.slice va keys.length vc) (.slice ga l.length gc)) (fun q _ e => .inr e)
              have h3 := HG3'.out
              have h4 : N + 1 < w3.heap.size := (Array.getElem?_eq_some_iff.1 HB2'.out).1
              have hTW : Grew w (store6 wr (N + 1) (.int .i64 5) (.int .i64 n) (.int .u64 u) (.string s) (.slice va keys.length vc) (.slice ga l.length gc)) := Moved.fresh HGW.out hT (fun q hq => by rcases hq with rfl | rfl <;> omega)
              refine ⟨Grow.tree ((HE.out.wider (T := fun q => q = g ∨ q = N + 1) (fun _ h => .inl h)).kept hT (fun q hq => by rcases hq with rfl | rfl <;> omega) (fun _ h => h)) ⟨HB.out.1, HB.out.2.1, HB.out.2.2.1, HB.out.2.2.2, hkz.out⟩ HG3.out.size ?_ (fun q hq => (World.ownsRow.lt HKV.out q hq).2), hTW⟩
              refine rows_base (Moved.owns hT HKVW.out (fun q hq e => ?_)) (by omega)
              rcases e with rfl | rfl
              · exact not_block HKVW.out HROWG.out (by decide) hq
              · exact not_block HKVW.out HRX.out (by decide) hq
            clear HE HKVW
            go_wp2_with fail
            refine bodyPost_ret (v := .agg #[.int .i64 5, .int .i64 n, .int .u64 u, .string s, .slice va keys.length vc, .slice ga l.length gc]) (by simp [results, Try.results19, go_sem, z0, z1, z2, z3, z4, z5, hne, hne2]) rfl ?_
            exact ⟨_, rfl, HFIN.out.1, HFIN.out.2⟩
        have hk3 : (k == 3) = false := by simpa using ck
        have hk8 : (k == 8) = false := by simpa using ck8
        have hk4 : (k == 4) = false := by simpa using ck4
        have hk5 : (k == 5) = false := by simpa using ck5
        have HNK : Hid (k ≠ 3 ∧ k ≠ 8 ∧ k ≠ 4 ∧ k ≠ 5) := ⟨ck, ck8, ck4, ck5⟩
        clear ck ck8 ck4 ck5
        by_cases c10 : 10 < k
        · by_cases c17 : k < 17
          · skip
            have HFIN : Hid (OwnT (store6 (wr.setCell ⟨g, 0, none⟩ (.int .i64 10)) (N + 1) (.int .i64 10) (.int .i64 n) (.int .u64 u) (.string s) (.slice va keys.length vc) (.slice ga l.length gc)) w.heap.size (retT (.mk k n u s keys l) by_) (.agg #[.int .i64 10, .int .i64 n, .int .u64 u, .string s, .slice va keys.length vc, .slice ga l.length gc]) (Fresh w (store6 (wr.setCell ⟨g, 0, none⟩ (.int .i64 10)) (N + 1) (.int .i64 10) (.int .i64 n) (.int .u64 u) (.string s) (.slice va keys.length vc) (.slice ga l.length gc))) ∧ Grew w (store6 (wr.setCell ⟨g, 0, none⟩ (.int .i64 10)) (N + 1) (.int .i64 10) (.int .i64 n) (.int .u64 u) (.string s) (.slice va keys.length vc) (.slice ga l.length gc))) := by
              have hN := HN.out
              have hgn := hgN.out
              have hret : retT (.mk k n u s keys l) by_ = (.mk 10 n u s keys (retL l (by_ / 2) 0)) := by rw [retT]; have := HNK.out; rw [if_neg (by omega), if_neg (by omega), if_neg (by omega), if_neg (by omega), if_pos (by omega)]
              rw [hret]
              have hT : Moved (fun q => q = g ∨ q = N + 1) wr (store6 (wr.setCell ⟨g, 0, none⟩ (.int .i64 10)) (N + 1) (.int .i64 10) (.int .i64 n) (.int .u64 u) (.string s) (.slice va keys.length vc) (.slice ga l.length gc)) := (Moved.setCell (S := fun q => q = g ∨ q = N + 1) (p := ⟨g, 0, none⟩) (Moved.refl _ wr) (fun _ => .inl rfl) _).trans (moved_store6 (wr.setCell ⟨g, 0, none⟩ (.int .i64 10)) (N + 1) (.int .i64 10) (.int .i64 n) (.int .u64 u) (.string s) (.slice va keys.length vc) (.slice ga l.length gc)) (fun _ _ h => .inr h)
              have h3 := HG3'.out
              have h4 : N + 1 < w3.heap.size := (Array.getElem?_eq_some_iff.1 HB2'.out).1
              have hTW : Grew w (store6 (wr.setCell ⟨g, 0, none⟩ (.int .i64 10)) (N + 1) (.int .i64 10) (.int .i64 n) (.int .u64 u) (.string s) (.slice va keys.length vc) (.slice ga l.length gc)) := Moved.fresh HGW.out hT (fun q hq => by rcases hq with rfl | rfl <;> omega)
              refine ⟨Grow.tree ((HE.out.wider (T := fun q => q = g ∨ q = N + 1) (fun _ h => .inl h)).kept hT (fun q hq => by rcases hq with rfl | rfl <;> omega) (fun _ h => h)) ⟨(by unfold i64ok; omega), HB.out.2.1, HB.out.2.2.1, HB.out.2.2.2, hkz.out⟩ HG3.out.size ?_ (fun q hq => (World.ownsRow.lt HKV.out q hq).2), hTW⟩
              refine rows_base (Moved.owns hT HKVW.out (fun q hq e => ?_)) (by omega)
              rcases e with rfl | rfl
              · exact not_block HKVW.out HROWG.out (by decide) hq
              · exact not_block HKVW.out HRX.out (by decide) hq
            clear HE HKVW
            go_wp2_with fail
            refine bodyPost_ret (v := .agg #[.int .i64 10, .int .i64 n, .int .u64 u, .string s, .slice va keys.length vc, .slice ga l.length gc]) (by simp [results, Try.results19, go_sem, z0, z1, z2, z3, z4, z5, hne, hne2]) rfl ?_
            exact ⟨_, rfl, HFIN.out.1, HFIN.out.2⟩
          · skip
            have HFIN : Hid (OwnT (store6 wr (N + 1) (.int .i64 k) (.int .i64 n) (.int .u64 u) (.string s) (.slice va keys.length vc) (.slice ga l.length gc)) w.heap.size (retT (.mk k n u s keys l) by_) (.agg #[.int .i64 k, .int .i64 n, .int .u64 u, .string s, .slice va keys.length vc, .slice ga l.length gc]) (Fresh w (store6 wr (N + 1) (.int .i64 k) (.int .i64 n) (.int .u64 u) (.string s) (.slice va keys.length vc) (.slice ga l.length gc))) ∧ Grew w (store6 wr (N + 1) (.int .i64 k) (.int .i64 n) (.int .u64 u) (.string s) (.slice va keys.length vc) (.slice ga l.length gc))) := by
              have hN := HN.out
              have hgn := hgN.out
              have hret : retT (.mk k n u s keys l) by_ = (.mk k n u s keys (retL l (by_ / 2) 0)) := by rw [retT]; have := HNK.out; rw [if_neg (by omega), if_neg (by omega), if_neg (by omega), if_neg (by omega), if_neg (by omega)]
              rw [hret]
              have hT : Moved (fun q => q = g ∨ q = N + 1) wr (store6 wr (N + 1) (.int .i64 k) (.int .i64 n) (.int .u64 u) (.string s) (.slice va keys.length vc) (.slice ga l.length gc)) := Moved.mono (moved_store6 wr (N + 1) (.int .i64 k) (.int .i64 n) (.int .u64 u) (.string s) (.slice va keys.length vc) (.slice ga l.length gc)) (fun q _ e => .inr e)
              have h3 := HG3'.out
              have h4 : N + 1 < w3.heap.size := (Array.getElem?_eq_some_iff.1 HB2'.out).1
              have hTW : Grew w (store6 wr (N + 1) (.int .i64 k) (.int .i64 n) (.int .u64 u) (.string s) (.slice va keys.length vc) (.slice ga l.length gc)) := Moved.fresh HGW.out hT (fun q hq => by rcases hq with rfl | rfl <;> omega)
              refine ⟨Grow.tree ((HE.out.wider (T := fun q => q = g ∨ q = N + 1) (fun _ h => .inl h)).kept hT (fun q hq => by rcases hq with rfl | rfl <;> omega) (fun _ h => h)) ⟨HB.out.1, HB.out.2.1, HB.out.2.2.1, HB.out.2.2.2, hkz.out⟩ HG3.out.size ?_ (fun q hq => (World.ownsRow.lt HKV.out q hq).2), hTW⟩
              refine rows_base (Moved.owns hT HKVW.out (fun q hq e => ?_)) (by omega)
              rcases e with rfl | rfl
              · exact not_block HKVW.out HROWG.out (by decide) hq
              · exact not_block HKVW.out HRX.out (by decide) hq
            clear HE HKVW
            go_wp2_with fail
            refine bodyPost_ret (v := .agg #[.int .i64 k, .int .i64 n, .int .u64 u, .string s, .slice va keys.length vc, .slice ga l.length gc]) (by simp [results, Try.results19, go_sem, z0, z1, z2, z3, z4, z5, hne, hne2]) rfl ?_
            exact ⟨_, rfl, HFIN.out.1, HFIN.out.2⟩
        · skip
          have HFIN : Hid (OwnT (store6 wr (N + 1) (.int .i64 k) (.int .i64 n) (.int .u64 u) (.string s) (.slice va keys.length vc) (.slice ga l.length gc)) w.heap.size (retT (.mk k n u s keys l) by_) (.agg #[.int .i64 k, .int .i64 n, .int .u64 u, .string s, .slice va keys.length vc, .slice ga l.length gc]) (Fresh w (store6 wr (N + 1) (.int .i64 k) (.int .i64 n) (.int .u64 u) (.string s) (.slice va keys.length vc) (.slice ga l.length gc))) ∧ Grew w (store6 wr (N + 1) (.int .i64 k) (.int .i64 n) (.int .u64 u) (.string s) (.slice va keys.length vc) (.slice ga l.length gc))) := by
            have hN := HN.out
            have hgn := hgN.out
            have hret : retT (.mk k n u s keys l) by_ = (.mk k n u s keys (retL l (by_ / 2) 0)) := by rw [retT]; have := HNK.out; rw [if_neg (by omega), if_neg (by omega), if_neg (by omega), if_neg (by omega), if_neg (by omega)]
            rw [hret]
            have hT : Moved (fun q => q = g ∨ q = N + 1) wr (store6 wr (N + 1) (.int .i64 k) (.int .i64 n) (.int .u64 u) (.string s) (.slice va keys.length vc) (.slice ga l.length gc)) := Moved.mono (moved_store6 wr (N + 1) (.int .i64 k) (.int .i64 n) (.int .u64 u) (.string s) (.slice va keys.length vc) (.slice ga l.length gc)) (fun q _ e => .inr e)
            have h3 := HG3'.out
            have h4 : N + 1 < w3.heap.size := (Array.getElem?_eq_some_iff.1 HB2'.out).1
            have hTW : Grew w (store6 wr (N + 1) (.int .i64 k) (.int .i64 n) (.int .u64 u) (.string s) (.slice va keys.length vc) (.slice ga l.length gc)) := Moved.fresh HGW.out hT (fun q hq => by rcases hq with rfl | rfl <;> omega)
            refine ⟨Grow.tree ((HE.out.wider (T := fun q => q = g ∨ q = N + 1) (fun _ h => .inl h)).kept hT (fun q hq => by rcases hq with rfl | rfl <;> omega) (fun _ h => h)) ⟨HB.out.1, HB.out.2.1, HB.out.2.2.1, HB.out.2.2.2, hkz.out⟩ HG3.out.size ?_ (fun q hq => (World.ownsRow.lt HKV.out q hq).2), hTW⟩
            refine rows_base (Moved.owns hT HKVW.out (fun q hq e => ?_)) (by omega)
            rcases e with rfl | rfl
            · exact not_block HKVW.out HROWG.out (by decide) hq
            · exact not_block HKVW.out HRX.out (by decide) hq
          clear HE HKVW
          go_wp2_with fail
          refine bodyPost_ret (v := .agg #[.int .i64 k, .int .i64 n, .int .u64 u, .string s, .slice va keys.length vc, .slice ga l.length gc]) (by simp [results, Try.results19, go_sem, z0, z1, z2, z3, z4, z5, hne, hne2]) rfl ?_
          exact ⟨_, rfl, HFIN.out.1, HFIN.out.2⟩
end Go.Proofs.Ytfbeepkogcmlmaa
