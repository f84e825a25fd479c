/-
  Texts of the proof, part 6 of 9.
-/
import Derived.Test.YtlhliolknaopjaaPE
import Derived.Test.YtlhliolknaopjaaPA
import Derived.StillTailTactics
import Derived.Deep.DeepCutAuto
import Derived.Deep.CutBlock

/-
  Keys: the sorted tree, plain; rows of one's own under a store; children in another order. Conditions: none.
-/
namespace Go.Proofs.Ytlhliolknaopjaa
open Go Go.ChangeShapes Go.WideShapes Go.ChangeAt Go.RowKit Go.Joins Go.Deep
set_option linter.unusedVariables false
set_option linter.unusedSimpArgs false

/-! ### sorting by key -/
def insP {α : Type} (x : ByteArray × α) : List (ByteArray × α) → List (ByteArray × α)
  | [] => [x]
  | y :: r => if ltS x.1 y.1 = true then x :: y :: r else y :: insP x r
def sortP {α : Type} (l : List (ByteArray × α)) : List (ByteArray × α) := l.foldr insP []
section
variable {α β : Type}
theorem insP_perm (x : ByteArray × α) : ∀ l : List (ByteArray × α), (insP x l).Perm (x :: l)
  | [] => .refl _
  | y :: r => by
    unfold insP
    split
    · exact .refl _
    · exact ((insP_perm x r).cons y).trans (.swap x y r)
theorem sortP_perm : ∀ l : List (ByteArray × α), (sortP l).Perm l
  | [] => .refl _
  | x :: r => (insP_perm x (sortP r)).trans ((sortP_perm r).cons x)
theorem insP_sorted (x : ByteArray × α) : ∀ l : List (ByteArray × α), l.Pairwise (fun a b => ltS a.1 b.1 = true) → (∀ y ∈ l, y.1 ≠ x.1) → (insP x l).Pairwise (fun a b => ltS a.1 b.1 = true)
  | [], _, _ => by simp [insP]
  | y :: r, h, hne => by
    obtain ⟨h1, h2⟩ := List.pairwise_cons.1 h
    unfold insP
    split
    · rename_i hlt
      refine List.pairwise_cons.2 ⟨fun z hz => ?_, h⟩
      rcases List.mem_cons.1 hz with rfl | hz
      · exact hlt
      · exact ltS_trans hlt (h1 z hz)
    · rename_i hnl
      have hyx : ltS y.1 x.1 = true := by
        cases hq : ltS y.1 x.1
        · exact absurd (ltS_total hq (by simpa using hnl)) (hne y (by simp))
        · rfl
      refine List.pairwise_cons.2 ⟨fun z hz => ?_, insP_sorted x r h2 (fun z hz => hne z (by simp [hz]))⟩
      rcases List.mem_cons.1 ((insP_perm x r).mem_iff.1 hz) with rfl | hz
      · exact hyx
      · exact h1 z hz
theorem sortP_sorted : ∀ l : List (ByteArray × α), (l.map Prod.fst).Nodup → (sortP l).Pairwise (fun a b => ltS a.1 b.1 = true)
  | [], _ => List.Pairwise.nil
  | x :: r, h => by
    obtain ⟨h1, h2⟩ := List.nodup_cons.1 (by simpa using h : (x.1 :: r.map Prod.fst).Nodup)
    exact insP_sorted x (sortP r) (sortP_sorted r h2) (fun y hy e => h1 (List.mem_map.2 ⟨y, (sortP_perm r).mem_iff.1 hy, e⟩))
theorem eq_of_strict : ∀ (l m : List (ByteArray × α)), l.Perm m → l.Pairwise (fun a b => ltS a.1 b.1 = true) → m.Pairwise (fun a b => ltS a.1 b.1 = true) → l = m
  | [], m, hp, _, _ => by simpa using hp
  | x :: r, [], hp, _, _ => by simp at hp
  | x :: r, y :: q, hp, h1, h2 => by
    obtain ⟨a1, a2⟩ := List.pairwise_cons.1 h1
    obtain ⟨b1, b2⟩ := List.pairwise_cons.1 h2
    have hxy : x = y := by
      rcases List.mem_cons.1 (hp.mem_iff.1 (by simp : x ∈ x :: r)) with h | h
      · exact h
      · rcases List.mem_cons.1 (hp.mem_iff.2 (by simp : y ∈ y :: q)) with h' | h'
        · exact h'.symm
        · have e1 := b1 x h
          have e2 := a1 y h'
          have := ltS_trans e1 e2
          rw [ltS_irrefl] at this; cases this
    subst hxy
    rw [eq_of_strict r q (List.Perm.cons_inv hp) a2 b2]
theorem insP_map (f : α → β) (x : ByteArray × α) : ∀ l : List (ByteArray × α), (insP x l).map (fun p => (p.1, f p.2)) = insP (x.1, f x.2) (l.map fun p => (p.1, f p.2))
  | [] => rfl
  | y :: r => by
    simp only [insP, List.map_cons]
    split
    · rfl
    · simp [insP_map f x r]
theorem sortP_map (f : α → β) : ∀ l : List (ByteArray × α), (sortP l).map (fun p => (p.1, f p.2)) = sortP (l.map fun p => (p.1, f p.2))
  | [] => rfl
  | x :: r => by
    show (insP x (sortP r)).map _ = insP _ (sortP (r.map _))
    rw [insP_map, sortP_map f r]
end
mutual
/-- The tree with its maps' entries in the order of their keys. -/
def sortT : Tr → Tr | .mk k n u s keys l => if k = 17 then .mk k n u s ((sortP (keys.zip (sortL l))).map Prod.fst) ((sortP (keys.zip (sortL l))).map Prod.snd) else .mk k n u s keys (sortL l)
def sortL : List Tr → List Tr | [] => [] | t :: r => sortT t :: sortL r
end
theorem sortL_map : ∀ l : List Tr, sortL l = l.map sortT
  | [] => rfl
  | t :: r => by simp [sortL, sortL_map r]
/-- The permutation that Order hands back sorts. -/
theorem perm_sortP {α : Type} {keys : List ByteArray} {l : List α} (hl : keys.length = l.length) {p : List (Fin keys.length)} (hp : p.Perm (List.finRange keys.length)) (hs : ∀ (i j : Nat) x y, i < j → p[i]? = some x → p[j]? = some y → ltS keys[x] keys[y] = true) (z : ByteArray × α) :
    p.map (fun x => (keys.zip l).getD x.1 z) = sortP (keys.zip l) := by
  have hz : (keys.zip l).length = keys.length := by simp [hl]
  have hfst : ∀ x : Fin keys.length, ((keys.zip l).getD x.1 z).1 = keys[x] := fun x => by
    rw [List.getD_eq_getElem?_getD, List.getElem?_eq_getElem (by rw [hz]; exact x.2)]
    simp
  have hall : (List.finRange keys.length).map (fun x => (keys.zip l).getD x.1 z) = keys.zip l := by
    apply List.ext_getElem (by simp [hl])
    intro i h1 h2
    rw [List.getElem_map, List.getElem_finRange]
    simp only [Fin.cast_mk] at *
    rw [List.getD_eq_getElem?_getD, List.getElem?_eq_getElem (by simpa using h2)]
    rfl
  have hnd : keys.Nodup := strict_nodup hp hs
  refine eq_of_strict _ _ (((hp.map _).trans (by rw [hall])).trans (sortP_perm _).symm) ?_ (sortP_sorted _ (by rw [List.map_fst_zip (by omega)]; exact hnd))
  rw [List.pairwise_iff_getElem]
  intro i j h1 h2 hij
  rw [List.getElem_map, List.getElem_map, hfst, hfst]
  exact hs i j _ _ hij (List.getElem?_eq_getElem (by simpa using h1)) (List.getElem?_eq_getElem (by simpa using h2))

/-! ### trees that can be sorted -/
mutual
def okT : Tr → Prop | .mk k n u s keys l => (k = 17 → keys.Nodup ∧ keys.length = l.length) ∧ keys.length ≤ 4096 ∧ l.length ≤ 4096 ∧ okL l
def okL : List Tr → Prop | [] => True | t :: r => okT t ∧ okL r
end
theorem okL_mem {l : List Tr} (h : okL l) {x : Tr} (hx : x ∈ l) : okT x := by
  induction l with
  | nil => cases hx
  | cons t r ih =>
    simp only [okL] at h
    rcases List.mem_cons.1 hx with rfl | hx
    · exact h.1
    · exact ih h.2 hx
mutual
theorem okT_few : ∀ {t : Tr}, okT t → Few t
  | .mk k n u s keys l, h => by
    simp only [okT] at h
    simp only [Few]
    exact ⟨h.2.1, h.2.2.1, okL_few h.2.2.2⟩
theorem okL_few : ∀ {l : List Tr}, okL l → FewL l
  | [], _ => trivial
  | t :: r, h => by
    simp only [okL] at h
    simp only [FewL]
    exact ⟨okT_few h.1, okL_few h.2⟩
end
theorem checkL_zero : ∀ (L : List (Nat × Tr)) (c : Nat), checkL c L = 0 → (L ≠ [] → L.length + c ≤ 4096) ∧ ∀ p ∈ L, p.1 < 64 ∧ suchB p.2 = true ∧ keyedE p.2 = 0
  | [], c, _ => ⟨fun h => absurd rfl h, by simp⟩
  | (b, x) :: r, c, h => by
    simp only [checkL] at h
    by_cases h1 : 4096 < c + 1
    · rw [if_pos h1] at h; cases h
    rw [if_neg h1] at h
    by_cases h2 : 64 ≤ b
    · rw [if_pos h2] at h; cases h
    rw [if_neg h2] at h
    by_cases h3 : suchB x = false
    · rw [if_pos h3] at h; cases h
    rw [if_neg h3] at h
    by_cases h4 : keyedE x ≠ 0
    · rw [if_pos h4] at h; exact absurd h h4
    rw [if_neg h4] at h
    obtain ⟨i1, i2⟩ := checkL_zero r (c + 1) h
    refine ⟨fun _ => ?_, fun p hp => ?_⟩
    · by_cases hr : r = []
      · subst hr; simp; omega
      · have := i1 hr; simp only [List.length_cons]; omega
    · rcases List.mem_cons.1 hp with rfl | hp
      · exact ⟨by show b < 64; omega, by simpa using h3, by simpa using h4⟩
      · exact i2 p hp
theorem keysE_zero : ∀ (l had : List ByteArray), keysE had l = 0 → l.Nodup ∧ (∀ k ∈ l, zeroB k = false ∧ k ∉ had)
  | [], _, _ => ⟨List.nodup_nil, by simp⟩
  | k :: r, had, h => by
    simp only [keysE] at h
    by_cases h1 : zeroB k = true
    · rw [if_pos h1] at h; cases h
    rw [if_neg h1] at h
    by_cases h2 : seenB k had = true
    · rw [if_pos h2] at h; cases h
    rw [if_neg h2] at h
    obtain ⟨i1, i2⟩ := keysE_zero r (had ++ [k]) h
    refine ⟨List.nodup_cons.2 ⟨fun hk => (i2 k hk).2 (by simp), i1⟩, fun x hx => ?_⟩
    rcases List.mem_cons.1 hx with rfl | hx
    · exact ⟨by simpa using h1, fun hm => h2 ((seenB_iff _ _).2 hm)⟩
    · exact ⟨(i2 x hx).1, fun hm => (i2 x hx).2 (by simp [hm])⟩
theorem okN_of {k n u : Int} {s : ByteArray} {keys : List ByteArray} {l : List Tr} (h1 : suchB (.mk k n u s keys l) = true) (h2 : keyedE (.mk k n u s keys l) = 0) : (k = 17 → keys.Nodup ∧ keys.length = l.length) ∧ (k ≠ 17 → keys = []) := by
  constructor
  · rintro rfl
    simp only [keyedE] at h2
    rw [if_neg (by simp)] at h2
    refine ⟨(keysE_zero _ _ h2).1, ?_⟩
    simp only [suchB, Bool.and_eq_true, Bool.or_eq_true, decide_eq_true_eq] at h1
    have h3 := h1.1.1.2
    simpa using h3
  · intro hk
    simp only [suchB, Bool.and_eq_true, Bool.or_eq_true, decide_eq_true_eq] at h1
    have hu : usesF k ≠ 8 := by
      have h17 := h1.1.1.1.1.1.1.1.1
      unfold usesF
      repeat' split
      all_goals omega
    rcases h1.1.1.1.1.2 with h | h
    · exact absurd h hu
    · exact List.length_eq_zero_iff.1 h
mutual
theorem okT_of : ∀ (t : Tr) (b : Nat), t.size ≤ 4096 → (∀ p ∈ preT b t, suchB p.2 = true ∧ keyedE p.2 = 0) → okT t
  | .mk k n u s keys l, b, hz, h => by
    simp only [preT, List.mem_cons] at h
    have h0 := h _ (.inl rfl)
    have hk := okN_of h0.1 h0.2
    simp only [Tr.size] at hz
    have hl := length_sizeL l
    simp only [okT]
    refine ⟨hk.1, ?_, by omega, okL_of l (b + 1) (by omega) (fun p hp => h p (.inr hp))⟩
    by_cases e : k = 17
    · have := (hk.1 e).2; omega
    · rw [hk.2 e]; simp
theorem okL_of : ∀ (l : List Tr) (b : Nat), sizeL l ≤ 4096 → (∀ p ∈ preL b l, suchB p.2 = true ∧ keyedE p.2 = 0) → okL l
  | [], _, _, _ => trivial
  | t :: r, b, hz, h => by
    simp only [sizeL] at hz
    simp only [preL, List.mem_append] at h
    simp only [okL]
    exact ⟨okT_of t b (by omega) (fun p hp => h p (.inl hp)), okL_of r b (by omega) (fun p hp => h p (.inr hp))⟩
end
theorem okT_check {t : Tr} (h : checkE t = 0) : okT t ∧ t.size ≤ 4096 := by
  obtain ⟨h1, h2⟩ := checkL_zero _ 0 h
  have hz : t.size ≤ 4096 := by
    have := h1 (by cases t; simp [preT])
    rw [preT_length] at this
    omega
  exact ⟨okT_of t 0 hz (fun p hp => (h2 p hp).2), hz⟩

/-! ### rows under a store -/
theorem set6_flat : ∀ (vs : List Value) (i : Nat), (∀ x ∈ vs, Node6 x) → i < vs.length → ∀ c0 c1 c2 c3 c4 c5 : Value,
    ((((((vs.flatMap cells6).set (i * 6) c0).set (i * 6 + 1) c1).set (i * 6 + 2) c2).set (i * 6 + 3) c3).set (i * 6 + 4) c4).set (i * 6 + 5) c5 = (vs.set i (.agg #[c0, c1, c2, c3, c4, c5])).flatMap cells6
  | [], _, _, h => by simp at h
  | y :: r, i, h6, h => by
    intro c0 c1 c2 c3 c4 c5
    obtain ⟨k, n, u, s, a4, n4, q4, a5, n5, q5, rfl⟩ := h6 y (by simp)
    cases i with
    | zero => simp [cells6]
    | succ i =>
      have ih := set6_flat r i (fun x hx => h6 x (by simp [hx])) (by simpa using h) c0 c1 c2 c3 c4 c5
      simp only [List.flatMap_cons, List.set_cons_succ]
      rw [← ih]
      have e : ∀ (q : Nat), (i + 1) * 6 + q = i * 6 + q + 6 := fun q => by omega
      rw [show (i + 1) * 6 = i * 6 + 6 by omega]
      simp [cells6, Nat.add_assoc, show ∀ q : Nat, i * 6 + (6 + q) = i * 6 + q + 6 from fun q => by omega]
theorem OwnN.stored {w : World} {B g cap n i : Nat} {vs : List Value} (h : OwnN w B (.slice (some ⟨g, 0, none⟩) n cap) vs) (hi : i < vs.length) {x : Value} (hx : Node6 x) {c0 c1 c2 c3 c4 c5 : Value} (e : x = .agg #[c0, c1, c2, c3, c4, c5]) :
    OwnN ((((((w.setCell ⟨g, i * 6, none⟩ c0).setCell ⟨g, i * 6 + 1, none⟩ c1).setCell ⟨g, i * 6 + 2, none⟩ c2).setCell ⟨g, i * 6 + 3, none⟩ c3).setCell ⟨g, i * 6 + 4, none⟩ c4).setCell ⟨g, i * 6 + 5, none⟩ c5) B (.slice (some ⟨g, 0, none⟩) n cap) (vs.set i x) := by
  obtain ⟨hr, h6⟩ := h
  have hn : n = vs.length := by
    obtain ⟨a, c, e, _⟩ := rows_form hr
    injection e
  subst hn
  have q := (((((hr.stored (i * 6) c0).1.stored (i * 6 + 1) c1).1.stored (i * 6 + 2) c2).1.stored (i * 6 + 3) c3).1.stored (i * 6 + 4) c4).1.stored (i * 6 + 5) c5
  rw [set6_flat vs i h6 hi, ← e] at q
  refine ⟨by rw [List.length_set]; exact q.1, fun y hy => ?_⟩
  rcases List.mem_or_eq_of_mem_set hy with hy | rfl
  · exact h6 y hy
  · exact hx
theorem OwnS.stored {w : World} {B g cap n : Nat} {ss : List ByteArray} (h : OwnS w B (.slice (some ⟨g, 0, none⟩) n cap) ss) (i : Nat) (x : ByteArray) :
    OwnS (w.setCell ⟨g, i, none⟩ (.string x)) B (.slice (some ⟨g, 0, none⟩) n cap) (ss.set i x) := by
  have hn : n = ss.length := by
    obtain ⟨a, c, e, _⟩ := rows_form h
    injection e
  subst hn
  have q := (World.ownsRow.stored h i (.string x)).1
  unfold OwnS
  rw [List.length_set, List.map_set]
  exact q
theorem rows_frozen {w : World} {B : Nat} {e : TypeId} {size n g c : Nat} {xs : List Value} (h : w.ownsRow B e size (.slice (some ⟨g, 0, none⟩) n c) n xs) (j : Nat) : w.frozen? ⟨g, j, none⟩ = false := by
  rcases h.2 with ⟨q, _⟩ | ⟨g', cap, cur, q, _, hg, _⟩
  · cases q
  · cases q; exact frozen_of_row w g j cur e hg

/-! ### children in another order -/
section
variable {w : World} {B : Nat}
theorem KidsO.idx : ∀ {l : List Tr} {vs : List Value} {S : Nat → Prop}, KidsO w B l vs S → ∃ f : Nat → Nat → Prop, (∀ i g, f i g → S g) ∧ (∀ i j g, i ≠ j → f i g → ¬ f j g) ∧ ∀ i x v, l[i]? = some x → vs[i]? = some v → OwnT w B x v (f i)
  | [], _, _, _ => ⟨fun _ _ => False, fun _ _ h => h.elim, fun _ _ _ _ h => h.elim, by simp⟩
  | t :: r, _, S, h => by
    simp only [KidsO] at h
    obtain ⟨v, vr, S1, S2, rfl, h1, h2, h3, h4, h5⟩ := h
    obtain ⟨f, f1, f2, f3⟩ := KidsO.idx h5
    refine ⟨fun i => match i with | 0 => S1 | i + 1 => f i, ?_, ?_, ?_⟩
    · intro i g hg
      cases i with
      | zero => exact h1 g hg
      | succ i => exact h2 g (f1 i g hg)
    · intro i j g hij hi hj
      cases i with
      | zero =>
        cases j with
        | zero => exact hij rfl
        | succ j => exact h3 g hi (f1 j g hj)
      | succ i =>
        cases j with
        | zero => exact h3 g hj (f1 i g hi)
        | succ j => exact f2 i j g (by omega) hi hj
    · intro i x u hx hu
      cases i with
      | zero => simp at hx hu; subst hx hu; exact h4
      | succ i => exact f3 i x u (by simpa using hx) (by simpa using hu)
theorem KidsO.of_idx : ∀ {l : List Tr} {vs : List Value} {S : Nat → Prop} (f : Nat → Nat → Prop), vs.length = l.length → (∀ i g, f i g → S g) → (∀ i j g, i ≠ j → f i g → ¬ f j g) → (∀ i x v, l[i]? = some x → vs[i]? = some v → OwnT w B x v (f i)) → KidsO w B l vs S
  | [], vs, _, _, hl, _, _, _ => List.length_eq_zero_iff.1 hl
  | t :: r, [], _, _, hl, _, _, _ => by simp at hl
  | t :: r, v :: vr, S, f, hl, h1, h2, h3 => by
    simp only [KidsO]
    refine ⟨v, vr, f 0, fun g => ∃ i, f (i + 1) g, rfl, h1 0, fun g ⟨i, hi⟩ => h1 _ g hi, fun g hg ⟨i, hi⟩ => h2 0 (i + 1) g (by omega) hg hi, h3 0 t v rfl rfl, ?_⟩
    exact KidsO.of_idx (fun i => f (i + 1)) (by simpa using hl) (fun i g hg => ⟨i, hg⟩) (fun i j g hij hi hj => h2 (i + 1) (j + 1) g (by omega) hi hj) (fun i x u hx hu => h3 (i + 1) x u (by simpa using hx) (by simpa using hu))
theorem KidsO.perm {l : List Tr} {vs : List Value} {S : Nat → Prop} (h : KidsO w B l vs S) {n : Nat} (hn : l.length = n) {p : List (Fin n)} (hp : p.Perm (List.finRange n)) (zt : Tr) (zv : Value) :
    KidsO w B (p.map fun x => l.getD x.1 zt) (p.map fun x => vs.getD x.1 zv) S := by
  have hl := h.length
  obtain ⟨f, f1, f2, f3⟩ := h.idx
  have hnd : p.Nodup := hp.nodup_iff.2 (List.nodup_finRange n)
  refine KidsO.of_idx (fun i g => ∃ q, p[i]? = some q ∧ f q.1 g) (by simp) (fun i g ⟨q, _, hq⟩ => f1 _ g hq) ?_ ?_
  · rintro i j g hij ⟨q, hq, hf⟩ ⟨q', hq', hf'⟩
    refine f2 q.1 q'.1 g (fun e => hij ?_) hf hf'
    obtain ⟨hi, hi'⟩ := List.getElem?_eq_some_iff.1 hq
    obtain ⟨hj, hj'⟩ := List.getElem?_eq_some_iff.1 hq'
    have hpw := List.pairwise_iff_getElem.1 hnd
    rcases Nat.lt_trichotomy i j with h | h | h
    · exact absurd (by rw [hi', hj']; exact Fin.ext e) (hpw i j hi hj h)
    · exact h
    · exact absurd (by rw [hi', hj']; exact Fin.ext e.symm) (hpw j i hj hi h)
  · intro i x v hx hv
    rw [List.getElem?_map] at hx hv
    cases hq : p[i]? with
    | none => rw [hq] at hx; cases hx
    | some q =>
      rw [hq] at hx hv
      simp only [Option.map_some, Option.some.injEq] at hx hv
      have hlt : q.1 < l.length := by omega
      have := f3 q.1 x v (by rw [← hx, List.getD_eq_getElem?_getD, List.getElem?_eq_getElem hlt]; rfl) (by rw [← hv, List.getD_eq_getElem?_getD, List.getElem?_eq_getElem (by omega)]; rfl)
      exact this.mono (fun g hg => ⟨q, rfl, hg⟩)
end
end Go.Proofs.Ytlhliolknaopjaa

/-
  Plain lemma, no program: a region that leaves its order open, each of its operations with a step relation of its own.
-/
namespace Go.Proofs.Ytlhliolknaopjaa
set_option linter.unusedSimpArgs false
set_option linter.unusedVariables false
open Go Go.RowKit
section
variable {P : Program} {ops : Array Oper}
/-- One operation's word: whenever it comes up, with what it waits for done, it goes on with its fact. -/
def opWordT (P : Program) (ops : Array Oper) (m : Nat) (I : World → Prop) (T : Nat → World → World → Prop) (R : World → World → Prop) (D : Array (List Nat)) (Φ : Nat → (Nat → Value) → Value → World → Prop) (a0 : Act) (w0 : World) (i : Nat) (o : Oper) : Prop :=
  ∀ (y : Nat → Value) (w : World), R w0 w → (i = m → I w) → (∀ j ∈ D.getD i [], Φ j y (y j) w) → ∀ K : Act → World → Prop,
    (∀ v w', T i w w' → Φ i y v w' → K ((fillL y (canonL ops D i) a0).put o.dst v) w') →
    if Region.wanted o (yielded ops (fillL y (canonL ops D i) a0).tmps) then o.wp P (fillL y (canonL ops D i) a0) w K (fun _ _ _ => False) else K ((fillL y (canonL ops D i) a0).put o.dst undef) w

structure InvFT (ops : Array Oper) (m : Nat) (I : World → Prop) (R : World → World → Prop) (D : Array (List Nat)) (Φ : Nat → (Nat → Value) → Value → World → Prop) (a0 : Act) (w0 : World) (listed : Array Bool) (a : Act) (w : World) (y : Nat → Value) : Prop where
  size : listed.size = ops.size
  act : a = fillL y (pairsOf ops) a0
  grown : R w0 w
  pre : listed.getD m false = false → I w
  facts : ∀ j, listed.getD j false = true → Φ j y (y j) w
  open_ : ∀ j d, listed.getD j true = false → (ops[j]?).bind (·.dst) = some d → a0.put (some d) (y j) = a0
  closed : ∀ j, listed.getD j false = true → ∀ k ∈ D.getD j [], listed.getD k false = true

theorem wpAny_of_factsT {m : Nat} {I : World → Prop} {T : Nat → World → World → Prop} {R : World → World → Prop} {D : Array (List Nat)} {Φ : Nat → (Nat → Value) → Value → World → Prop} {a0 : Act} {w0 : World} {Q : Exit → Act → World → Prop}
    (hRt : ∀ {a b c : World}, R a b → R b c → R a c) (hTR : ∀ i w w', T i w w' → R w w') (hTr : ∀ i w, T i w w) (hTI : ∀ i, i ≠ m → ∀ w w', T i w w' → I w → I w') (hcg : ∀ j y y' v w, (∀ k ∈ D.getD j [], y k = y' k) → Φ j y v w → Φ j y' v w) (hchk : factsOK ops D = true) (hst : ∀ i j, i ≠ j → ∀ y v w w', T i w w' → Φ j y v w → Φ j y v w') (hrr : ∀ w, R w w)
    (hop : ∀ i o, ops[i]? = some o → opWordT P ops m I T R D Φ a0 w0 i o)
    (hfin : ∀ y w, R w0 w → (∀ j, j < ops.size → Φ j y (y j) w) → Q .normal (fillL y (pairsOf ops) a0) w) :
    ∀ (fuel : Nat) (listed : Array Bool) (a : Act) (w : World) (y : Nat → Value), ((List.range ops.size).filter fun j => !listed.getD j true).length ≤ fuel →
      InvFT ops m I R D Φ a0 w0 listed a w y → wpAny P .any ops Q fuel listed a w := by
  simp only [factsOK, Bool.and_eq_true, List.all_eq_true, List.mem_range] at hchk
  obtain ⟨hkeys, hrows⟩ := hchk
  -- nothing ready: all has been listed
  have hall : ∀ (listed : Array Bool), listed.size = ops.size → Region.ready .any ops listed = [] → ∀ j, j < ops.size → listed.getD j false = true := by
    intro listed hs hnil j
    induction j using Nat.strongRecOn with
    | ind j ih =>
      intro hj
      cases hl : listed.getD j false with
      | true => rfl
      | false =>
        exfalso
        have hmem : j ∈ Region.ready .any ops listed := by
          rw [mem_ready]
          refine ⟨by rw [listed_cases (by omega)]; exact hl, ops[j], Array.getElem?_eq_getElem hj, fun e he hb => ?_⟩
          have hrow := hrows j hj
          rw [Array.getElem?_eq_getElem hj] at hrow
          simp only [Bool.and_eq_true, List.all_eq_true, decide_eq_true_eq] at hrow
          have hlt := hrow.1 e.on (List.mem_map.2 ⟨e, List.mem_filter.2 ⟨by simpa using he, hb⟩, rfl⟩)
          exact ih e.on hlt (by omega)
        rw [hnil] at hmem
        cases hmem
  have hdone : ∀ (listed : Array Bool) (a : Act) (w : World) (y : Nat → Value), InvFT ops m I R D Φ a0 w0 listed a w y → Region.ready .any ops listed = [] → Q .normal a w := by
    intro listed a w y hI hnil
    rw [hI.act]
    exact hfin y w hI.grown (fun j hj => hI.facts j (hall listed hI.size hnil j hj))
  intro fuel
  induction fuel with
  | zero =>
    intro listed a w y hlen hI
    have hnil : Region.ready .any ops listed = [] := by
      have h0 : ((List.range ops.size).filter fun j => !listed.getD j true) = [] := List.length_eq_zero_iff.1 (by omega)
      refine List.eq_nil_iff_forall_not_mem.2 fun j hj => ?_
      have hj' := mem_ready.1 hj
      have : j ∈ ((List.range ops.size).filter fun j => !listed.getD j true) := by
        obtain ⟨hl, o, ho, _⟩ := hj'
        exact List.mem_filter.2 ⟨List.mem_range.2 (Array.getElem?_eq_some_iff.1 ho).1, by simp [hl]⟩
      rw [h0] at this
      cases this
    exact ⟨hnil, hdone listed a w y hI hnil⟩
  | succ fuel ih =>
    intro listed a w y hlen hI
    refine ⟨hdone listed a w y hI, fun i hi => ?_⟩
    obtain ⟨hun, o, ho, hedges⟩ := mem_ready.1 hi
    have hilt : i < ops.size := (Array.getElem?_eq_some_iff.1 ho).1
    have hunf : listed.getD i false = false := by rw [← listed_cases (by rw [hI.size]; exact hilt)]; exact hun
    have hrow := hrows i hilt
    rw [ho] at hrow
    simp only [Bool.and_eq_true, List.all_eq_true, decide_eq_true_eq, List.any_eq_true, Bool.or_eq_true, beq_iff_eq, List.contains_iff_mem] at hrow
    -- what i waits for has been listed
    have hD : ∀ k ∈ D.getD i [], listed.getD k false = true := by
      intro k hk
      obtain ⟨e, he, hek⟩ := hrow.2 k hk
      obtain ⟨ed, hed, rfl⟩ := List.mem_map.1 he
      obtain ⟨hed1, hed2⟩ := List.mem_filter.1 hed
      have hl := hedges ed (by simpa using hed1) hed2
      rcases hek with rfl | hek
      · exact hl
      · exact hI.closed _ hl k hek
    have hcan : fillL y (canonL ops D i) a0 = a := by
      rw [hI.act]
      refine fillL_filter y _ _ a0 hkeys ?_
      rintro ⟨d, j⟩ hq hp
      simp only [Bool.not_eq_false', Bool.or_eq_true, beq_iff_eq] at hp
      have hdst := mem_pairsOf.1 hq
      refine hI.open_ j d ?_ hdst
      rcases hp with rfl | hw
      · exact hun
      · have hjlt : j < listed.size := by
          rw [hI.size]
          rcases Nat.lt_or_ge j ops.size with h' | h'
          · exact h'
          · rw [Array.getElem?_eq_none h'] at hdst; cases hdst
        rw [listed_cases hjlt]
        cases hl : listed.getD j false with
        | false => rfl
        | true =>
          have := hI.closed j hl i (by simpa [waits] using hw)
          rw [hunf] at this
          cases this
    have hw := hop i o ho y w hI.grown (fun e => hI.pre (by rw [← e]; exact hunf)) (fun j hj => hI.facts j (hD j hj)) (fun a' w' => ∃ v, a' = a.put o.dst v ∧ T i w w' ∧ Φ i y v w')
    rw [hcan] at hw
    have hlen' : ((List.range ops.size).filter fun j => !(listed.setIfInBounds i true).getD j true).length ≤ fuel := by
      have : ((List.range ops.size).filter fun j => !(listed.setIfInBounds i true).getD j true).length < ((List.range ops.size).filter fun j => !listed.getD j true).length := by
        refine filter_lt _ i (fun j hj => ?_) (List.mem_range.2 hilt) (by rw [hun]; rfl) ?_
        · by_cases hij : i = j
          · subst hij
            have h2 : i < listed.size := by rw [hI.size]; exact hilt
            simp [h2] at hj
          · rw [getD_set_ne true hij] at hj; exact hj
        · have h2 : i < listed.size := by rw [hI.size]; exact hilt
          simp [h2]
      omega
    have hnext : ∀ v w', T i w w' → Φ i y v w' → wpAny P .any ops Q fuel (listed.setIfInBounds i true) (a.put o.dst v) w' := by
      intro v w' hr0 hφ
      have hr : R w w' := hTR _ _ _ hr0
      have hag : ∀ j, listed.getD j false = true ∨ j = i → ∀ k ∈ D.getD j [], y k = (if k = i then v else y k) := by
        intro j hj k hk
        have hkl : listed.getD k false = true := by
          rcases hj with hj | hj
          · exact hI.closed j hj k hk
          · rw [hj] at hk; exact hD k hk
        have hki : k ≠ i := fun e => by rw [e, hunf] at hkl; cases hkl
        rw [if_neg hki]
      have h2 : i < listed.size := by rw [hI.size]; exact hilt
      refine ih _ _ _ (fun k => if k = i then v else y k) hlen' ⟨by simp [hI.size], ?_, hRt hI.grown hr, fun hm => ?_, ?_, ?_, ?_⟩
      · cases hd : o.dst with
        | none =>
          rw [hI.act]
          show fillL y (pairsOf ops) a0 = _
          refine fillL_congr _ _ _ _ fun p hp => ?_
          have := mem_pairsOf.1 (show (p.1, p.2) ∈ pairsOf ops from hp)
          have hne : p.2 ≠ i := fun he => by rw [he, ho] at this; simp [hd] at this
          simp [hne]
        | some d =>
          rw [hI.act, fillL_set y i v _ a0 d hkeys (mem_pairsOf.2 (by simp [ho, hd]))]
      · by_cases him : i = m
        · subst him; simp [h2] at hm
        · rw [getD_set_ne false him] at hm
          exact hTI i him _ _ hr0 (hI.pre hm)
      · intro j hj
        by_cases hji : j = i
        · subst hji
          rw [if_pos rfl]
          exact hcg j y _ v w' (hag j (.inr rfl)) hφ
        · rw [if_neg hji]
          rw [getD_set_ne false (Ne.symm hji)] at hj
          exact hcg j y _ (y j) w' (hag j (.inl hj)) (hst i j (Ne.symm hji) y _ _ _ hr0 (hI.facts j hj))
      · intro j d hj hdst
        have hji : j ≠ i := fun he => by subst he; simp [h2] at hj
        simp only [hji, if_false]
        rw [getD_set_ne true (Ne.symm hji)] at hj
        exact hI.open_ j d hj hdst
      · intro j hj k hk
        by_cases hji : j = i
        · subst hji; exact getD_set_true (hD k hk)
        · rw [getD_set_ne false (Ne.symm hji)] at hj
          exact getD_set_true (hI.closed j hj k hk)
    unfold wpOp
    simp only [ho]
    have hw2 := hw (fun v w' hr hφ => ⟨v, rfl, hr, hφ⟩)
    split at hw2
    · rename_i hwa
      rw [if_pos hwa]
      refine .inl ?_
      have h3 : o.wp P a w (wpAny P .any ops Q fuel (listed.setIfInBounds i true)) (fun _ _ _ => False) :=
        Oper.wp_mono (fun a' w' ⟨v, he, hr, hφ⟩ => by subst he; exact hnext v w' hr hφ) hw2
      exact wp_exit h3
    · rename_i hwa
      rw [if_neg hwa]
      obtain ⟨v, he, hr, hφ⟩ := hw2
      rw [he]
      exact hnext v w hr hφ
where
  wp_exit {o : Oper} {a : Act} {w : World} {K : Act → World → Prop} {Q : Exit → Act → World → Prop} (h : o.wp P a w K (fun _ _ _ => False)) : o.wp P a w K Q := by
    unfold Oper.wp at *
    generalize (execOp a.eval o).run P w = r at *
    cases r with
    | ok n w' =>
      cases n <;> simp only [Oper.upon] at h ⊢
      case enter f args =>
        refine Calls.mono h fun e w'' he => ?_
        cases e with
        | returned v => exact he
        | panicked c => exact he.elim
        | outgrown => obtain ⟨_, _, hq⟩ := he; exact hq.elim
      all_goals exact h
    | halt x w' => cases x <;> simp only [Oper.upon] at h

/-- **A region that draws its order, by facts.** -/
theorem wp_region_factsT {id : Nat} {a0 : Act} {w0 : World} {Q : Exit → Act → World → Prop} (R : World → World → Prop) (m : Nat) (I : World → Prop) (T : Nat → World → World → Prop) (D : Array (List Nat)) (Φ : Nat → (Nat → Value) → Value → World → Prop) (hm : P.follows .mixedOrders = true)
    (hRt : ∀ {a b c : World}, R a b → R b c → R a c) (hrr : ∀ w, R w w) (hTR : ∀ i w w', T i w w' → R w w') (hTr : ∀ i w, T i w w) (hTI : ∀ i, i ≠ m → ∀ w w', T i w w' → I w → I w') (hcg : ∀ j y y' v w, (∀ k ∈ D.getD j [], y k = y' k) → Φ j y v w → Φ j y' v w) (hI0 : I w0.drew) (hd : R w0 w0.drew) (hchk : factsOK ops D = true) (hst : ∀ i j, i ≠ j → ∀ y v w w', T i w w' → Φ j y v w → Φ j y v w')
    (hop : allWords (opWordT P ops m I T R D Φ a0 w0) 0 ops.toList)
    (hfin : ∀ y w, R w0 w → (∀ j, j < ops.size → Φ j y (y j) w) → Q .normal (fillL y (pairsOf ops) a0) w) : (Code.region id ops true).wp P Q a0 w0 := by
  refine wp_region_any hm ?_
  refine wpAny_of_factsT (m := m) (I := I) (T := T) (R := R) (D := D) (Φ := Φ) (a0 := a0) (w0 := w0) hRt hTR hTr hTI hcg hchk hst hrr (fun i o ho => ?_) hfin ops.size _ a0 _ (fun j => match (ops[j]?).bind (·.dst) with | some d => a0.tmps.getD d undef | none => undef) ?_ ⟨by simp, ?_, hd, fun _ => hI0, ?_, ?_, ?_⟩
  · have := allWords_get _ 0 i o hop (by simpa using ho)
    simpa using this
  · exact Nat.le_trans (List.length_filter_le _ _) (by simp)
  · symm
    have : ∀ (L : List (Nat × Nat)), (∀ p ∈ L, (ops[p.2]?).bind (·.dst) = some p.1) → fillL (fun j => match (ops[j]?).bind (·.dst) with | some d => a0.tmps.getD d undef | none => undef) L a0 = a0 := by
      intro L
      induction L with
      | nil => intro _; rfl
      | cons p L ih =>
        intro h
        obtain ⟨d, j⟩ := p
        have hd := h (d, j) (by simp)
        simp only at hd
        show fillL _ L (a0.put (some d) _) = a0
        simp only [hd]
        rw [put_self]
        exact ih (fun p hp => h p (by simp [hp]))
    exact this _ (fun p hp => mem_pairsOf.1 hp)
  · intro j hj
    have h : (Array.replicate ops.size false).getD j false = false := by
      simp [Array.getD]
    rw [h] at hj; cases hj
  · intro j d _ hdst
    simp only [hdst]
    exact put_self a0 d
  · intro j hj
    have h : (Array.replicate ops.size false).getD j false = false := by
      simp [Array.getD]
    rw [h] at hj; cases hj


def depsT (Φ : List ((Nat → Value) → Value → World → Prop)) (y : Nat → Value) (w : World) : List Nat → Prop
  | [] => True
  | j :: r => Φ.getD j (fun _ _ _ => True) y (y j) w ∧ depsT Φ y w r
theorem depsT_of {Φ : List ((Nat → Value) → Value → World → Prop)} {y : Nat → Value} {w : World} : ∀ (d : List Nat), (∀ j ∈ d, Φ.getD j (fun _ _ _ => True) y (y j) w) → depsT Φ y w d
  | [], _ => trivial
  | j :: r, h => ⟨h j (by simp), depsT_of r (fun k hk => h k (by simp [hk]))⟩
def factsT (y : Nat → Value) (w : World) : Nat → List ((Nat → Value) → Value → World → Prop) → Prop
  | _, [] => True
  | i, φ :: r => φ y (y i) w ∧ factsT y w (i + 1) r
theorem factsT_of {Φ0 : List ((Nat → Value) → Value → World → Prop)} {y : Nat → Value} {w : World} : ∀ (Φ : List ((Nat → Value) → Value → World → Prop)) (i : Nat), (∀ k, Φ[k]? = Φ0[i + k]?) → (∀ j, j < i + Φ.length → Φ0.getD j (fun _ _ _ => True) y (y j) w) → factsT y w i Φ
  | [], _, _, _ => trivial
  | φ :: r, i, h, hj => by
    refine ⟨?_, factsT_of r (i + 1) (fun k => ?_) (fun j hj' => hj j (by simp; omega))⟩
    · have h0 := hj i (by simp)
      have := h 0
      simp at this
      simpa [List.getD_eq_getElem?_getD, ← this] using h0
    · have := h (k + 1)
      simp at this
      rw [this]; congr 1; omega
def wordT (P : Program) (ops : Array Oper) (m : Nat) (I : World → Prop) (T : Nat → World → World → Prop) (R : World → World → Prop) (Φ : List ((Nat → Value) → Value → World → Prop)) (a0 : Act) (w0 : World) (i : Nat) (o : Oper) (d : List Nat) (c : List (Nat × Nat)) : Prop :=
  ∀ (y : Nat → Value) (w : World), R w0 w → (i = m → I w) → depsT Φ y w d → ∀ K : Act → World → Prop,
    (∀ a' v w', a' = (fillL y c a0).put o.dst v → T i w w' → Φ.getD i (fun _ _ _ => True) y v w' → K a' w') →
    if Region.wanted o (yielded ops (fillL y c a0).tmps) then o.wp P (fillL y c a0) w K (fun _ _ _ => False) else K ((fillL y c a0).put o.dst undef) w

def allWT (P : Program) (ops : Array Oper) (m : Nat) (I : World → Prop) (T : Nat → World → World → Prop) (R : World → World → Prop) (Φ : List ((Nat → Value) → Value → World → Prop)) (a0 : Act) (w0 : World) : Nat → List Oper → List (List Nat) → List (List (Nat × Nat)) → Prop
  | _, [], _, _ => True
  | i, o :: r, d :: ds, c :: cs => wordT P ops m I T R Φ a0 w0 i o d c ∧ allWT P ops m I T R Φ a0 w0 (i + 1) r ds cs
  | _, _ :: _, _, _ => False

theorem allW_wordsT {m : Nat} {I : World → Prop} {T : Nat → World → World → Prop} {R : World → World → Prop} {Φ : List ((Nat → Value) → Value → World → Prop)} {a0 : Act} {w0 : World} (D0 : List (List Nat)) (C0 : List (List (Nat × Nat))) (hC : ∀ i, i < ops.size → C0.getD i [] = canonL ops D0.toArray i) :
    ∀ (l : List Oper) (i : Nat) (D : List (List Nat)) (C : List (List (Nat × Nat))), i + l.length = ops.size → (∀ k, D[k]? = D0[i + k]?) → (∀ k, C[k]? = C0[i + k]?) → allWT P ops m I T R Φ a0 w0 i l D C →
      allWords (opWordT P ops m I T R D0.toArray (fun j => Φ.getD j (fun _ _ _ => True)) a0 w0) i l := by
  intro l
  induction l with
  | nil => intros; trivial
  | cons o r ih =>
    intro i D C hl hD hC' h
    match D, C, h with
    | d :: ds, c :: cs, h =>
      obtain ⟨h1, h2⟩ := h
      refine ⟨?_, ih (i + 1) ds cs (by simp at hl; omega) (fun k => ?_) (fun k => ?_) h2⟩
      · have hd : D0.toArray.getD i [] = d := by
          have := hD 0
          simp at this
          simp [Array.getD_eq_getD_getElem?, ← this]
        have hc : canonL ops D0.toArray i = c := by
          rw [← hC i (by simp at hl; omega)]
          have := hC' 0
          simp at this
          simp [List.getD_eq_getElem?_getD, ← this]
        intro y w hR hi hj K hK
        rw [hd] at hj
        rw [hc] at hK ⊢
        exact h1 y w hR hi (depsT_of _ hj) K (fun a' v w' he hr hφ => by subst he; exact hK v w' hr hφ)
      · have := hD (k + 1)
        simp at this
        rw [this]; congr 1; omega
      · have := hC' (k + 1)
        simp at this
        rw [this]; congr 1; omega

def stLT (T : Nat → World → World → Prop) : Nat → List ((Nat → Value) → Value → World → Prop) → Prop
  | _, [] => True
  | j, φ :: r => (∀ i, i ≠ j → ∀ y v w w', T i w w' → φ y v w → φ y v w') ∧ stLT T (j + 1) r
theorem stLT_get {T : Nat → World → World → Prop} : ∀ (Φ : List ((Nat → Value) → Value → World → Prop)) (j : Nat), stLT T j Φ → ∀ k φ, Φ[k]? = some φ → ∀ i, i ≠ j + k → ∀ y v w w', T i w w' → φ y v w → φ y v w'
  | φ :: r, j, h, 0, ψ, hk => by
    simp at hk
    subst hk
    exact h.1
  | φ :: r, j, h, k + 1, ψ, hk => by
    intro i hi y v w w' hr
    exact stLT_get r (j + 1) h.2 k ψ (by simpa using hk) i (by omega) y v w w' hr
def cgLT (D : List (List Nat)) : Nat → List ((Nat → Value) → Value → World → Prop) → Prop
  | _, [] => True
  | j, φ :: r => (∀ y y' v w, (∀ k ∈ D.getD j [], y k = y' k) → φ y v w → φ y' v w) ∧ cgLT D (j + 1) r
theorem cgLT_get {D : List (List Nat)} : ∀ (Φ : List ((Nat → Value) → Value → World → Prop)) (j : Nat), cgLT D j Φ → ∀ k φ, Φ[k]? = some φ → ∀ y y' v w, (∀ q ∈ D.getD (j + k) [], y q = y' q) → φ y v w → φ y' v w
  | φ :: r, j, h, 0, ψ, hk => by
    simp at hk
    subst hk
    exact h.1
  | φ :: r, j, h, k + 1, ψ, hk => by
    intro y y' v w hq
    exact cgLT_get r (j + 1) h.2 k ψ (by simpa using hk) y y' v w (by rw [show j + 1 + k = j + (k + 1) by omega]; exact hq)
theorem cg_plain {φ : Value → World → Prop} {P0 : (Nat → Value) → (Nat → Value) → Prop} : ∀ (y y' : Nat → Value) (v : Value) (w : World), P0 y y' → (fun (_ : Nat → Value) v w => φ v w) y v w → (fun (_ : Nat → Value) v w => φ v w) y' v w := fun _ _ _ _ _ h => h
/-- **A region that draws its order, by facts, the tables written out.** -/
theorem wp_region_tablesT {id : Nat} {a0 : Act} {w0 : World} {Q : Exit → Act → World → Prop} (R : World → World → Prop) (m : Nat) (I : World → Prop) (T : Nat → World → World → Prop) (D : List (List Nat)) (C : List (List (Nat × Nat))) (F : List (Nat × Nat)) (Φ : List ((Nat → Value) → Value → World → Prop)) (hm : P.follows .mixedOrders = true)
    (hRt : ∀ {a b c : World}, R a b → R b c → R a c) (hrr : ∀ w, R w w) (hTR : ∀ i w w', T i w w' → R w w') (hTr : ∀ i w, T i w w) (hTI : ∀ i, i ≠ m → ∀ w w', T i w w' → I w → I w') (hI0 : I w0.drew) (hd : R w0 w0.drew) (hchk : tablesOK ops D C F = true) (hst : stLT T 0 Φ) (hcg : cgLT D 0 Φ)
    (hop : allWT P ops m I T R Φ a0 w0 0 ops.toList D C)
    (hlen : Φ.length = ops.size)
    (hfin : ∀ y w, R w0 w → factsT y w 0 Φ → Q .normal (fillL y F a0) w) : (Code.region id ops true).wp P Q a0 w0 := by
  simp only [tablesOK, Bool.and_eq_true, decide_eq_true_eq, List.all_eq_true, List.mem_range] at hchk
  obtain ⟨⟨h1, h2⟩, h3⟩ := hchk
  subst h2
  refine wp_region_factsT R m I T D.toArray (fun j => Φ.getD j (fun _ _ _ => True)) hm hRt hrr hTR hTr hTI ?_ hI0 hd h1 ?_ (allW_wordsT D C h3 ops.toList 0 D C (by simp) (by simp) (by simp) hop) (fun y w hr hj => hfin y w hr (factsT_of Φ 0 (by simp) (fun j h => hj j (by rw [← hlen]; simpa using h))))
  · intro j y y' v w hk hφ
    rcases Nat.lt_or_ge j Φ.length with hj | hj
    · have e : Φ.getD j (fun _ _ _ => True) = Φ[j] := by simp [List.getD_eq_getElem?_getD, hj]
      rw [e] at hφ ⊢
      refine cgLT_get Φ 0 hcg j _ (List.getElem?_eq_getElem hj) y y' v w ?_ hφ
      intro q hq
      refine hk q ?_
      rw [Nat.zero_add] at hq
      simpa [Array.getD_eq_getD_getElem?, List.getD_eq_getElem?_getD] using hq
    · have e : Φ.getD j (fun _ _ _ => True) = fun _ _ _ => True := by simp [List.getD_eq_getElem?_getD, hj]
      rw [e]; trivial
  · intro i j hij y v w w' hr hφ
    rcases Nat.lt_or_ge j Φ.length with hj | hj
    · have e : Φ.getD j (fun _ _ _ => True) = Φ[j] := by simp [List.getD_eq_getElem?_getD, hj]
      rw [e] at hφ ⊢
      exact stLT_get Φ 0 hst j _ (List.getElem?_eq_getElem hj) i (by rw [Nat.zero_add]; exact hij) y v w w' hr hφ
    · have e : Φ.getD j (fun _ _ _ => True) = fun _ _ _ => True := by simp [List.getD_eq_getElem?_getD, hj]
      rw [e]; trivial

end
end Go.Proofs.Ytlhliolknaopjaa

/-
  Keys: sorting the maps of a tree in place (sorted). Conditions: the tree is one's own and can be sorted.
-/
namespace Go.Proofs.Ytlhliolknaopjaa
open Go Go.ChangeShapes Go.WideShapes Go.ChangeAt Go.RowKit Go.Joins Go.Deep
set_option linter.unusedVariables false
set_option linter.unusedSimpArgs false

theorem made6 : ∀ n : Nat, (madeCells #[.int .i64 0, .int .i64 0, .int .u64 0, .string ⟨#[]⟩, .slice none 0 0, .slice none 0 0] (n * 6)).toList = (List.replicate n zeroNode).flatMap cells6
  | 0 => by simp [madeCells]
  | n + 1 => by
    have ih := made6 n
    rw [List.replicate_succ', List.flatMap_append, ← ih]
    have e : (n + 1) * 6 = n * 6 + 1 + 1 + 1 + 1 + 1 + 1 := by omega
    simp only [madeCells, Array.toList_map, Array.toList_range, e, List.range_succ, List.map_append, List.map_cons, List.map_nil, List.append_assoc]
    congr 1
    have m0 : n * 6 % 6 = 0 := by omega
    have m1 : (n * 6 + 1) % 6 = 1 := by omega
    have m2 : (n * 6 + 1 + 1) % 6 = 2 := by omega
    have m3 : (n * 6 + 1 + 1 + 1) % 6 = 3 := by omega
    have m4 : (n * 6 + 1 + 1 + 1 + 1) % 6 = 4 := by omega
    have m5 : (n * 6 + 1 + 1 + 1 + 1 + 1) % 6 = 5 := by omega
    simp [zeroNode, cells6, m0, m1, m2, m3, m4, m5]
theorem run_make_nodes (n : Nat) (hn : n ≤ 4096) (w : World) :
    (Instr.makeSlice 25 (.int .i64 (n : Int)) (.int .i64 (n : Int))).run Try.prog w = .ok (.slice (some ⟨w.heap.size, 0, none⟩) n n) (w.alloc (.cells (madeCells #[.int .i64 0, .int .i64 0, .int .u64 0, .string ⟨#[]⟩, .slice none 0 0, .slice none 0 0] (n * 6)) 27)) := by
  obtain ⟨i0, h1, h2, h3, h4⟩ := node_parts
  have h := run_make (P := Try.prog) w 25 27 i0 zeroNode Try.underlying25 h1 h2 .i64 .i64 n n (by omega) (by omega) (by rw [h4]; omega) (by omega)
  rw [h3] at h
  simp only [Int.toNat_natCast] at h
  exact h
theorem run_make_strs (n : Nat) (hn : n ≤ 4096) (w : World) :
    (Instr.makeSlice 24 (.int .i64 (n : Int)) (.int .i64 (n : Int))).run Try.prog w = .ok (.slice (some ⟨w.heap.size, 0, none⟩) n n) (w.alloc (.cells (madeCells #[.string ⟨#[]⟩] n) 9)) :=
  run_make_row' (P := Try.prog) 24 9 (.string ⟨#[]⟩) 16 Try.underlying24 Try.infoStr rfl .i64 .i64 n (by omega) (by omega) w
theorem own_made_nodes {w : World} {B g n : Nat} (hn : n ≤ 4096) (hB : B ≤ g) (h : w.heap[g]? = some (.cells (madeCells #[.int .i64 0, .int .i64 0, .int .u64 0, .string ⟨#[]⟩, .slice none 0 0, .slice none 0 0] (n * 6)) 27 (0, 0))) :
    OwnN w B (.slice (some ⟨g, 0, none⟩) n n) (List.replicate n zeroNode) := by
  have hl : ((List.replicate n zeroNode).flatMap cells6).length = n * 6 := by rw [← made6, Array.length_toList, size_madeCells]
  refine ⟨⟨by simpa using hl, .inr ⟨g, n, _, by simp, hB, h, by simp, by unfold maxLen; omega, size_madeCells _ _, ?_⟩⟩, fun x hx => ?_⟩
  · rw [List.length_replicate, made6, List.take_of_length_le (by omega)]
  · obtain ⟨_, rfl⟩ := List.mem_replicate.1 hx
    exact ⟨_, _, _, _, _, _, _, _, _, _, rfl⟩
theorem own_made_strs {w : World} {B g n : Nat} (hn : n ≤ 4096) (hB : B ≤ g) (h : w.heap[g]? = some (.cells (madeCells #[.string ⟨#[]⟩] n) 9 (0, 0))) :
    OwnS w B (.slice (some ⟨g, 0, none⟩) n n) (List.replicate n ⟨#[]⟩) := by
  unfold OwnS
  refine ⟨by simp, .inr ⟨g, n, _, by simp, hB, h, by simp, by unfold maxLen; omega, by rw [size_madeCells]; omega, ?_⟩⟩
  rw [List.length_replicate, toList_madeCells_one, List.take_of_length_le (by simp)]
  simp
theorem moved_six (w : World) (g o : Nat) (a b c d e f : Value) : Moved (fun k => k = g) w ((((((w.setCell ⟨g, o, none⟩ a).setCell ⟨g, o + 1, none⟩ b).setCell ⟨g, o + 2, none⟩ c).setCell ⟨g, o + 3, none⟩ d).setCell ⟨g, o + 4, none⟩ e).setCell ⟨g, o + 5, none⟩ f) :=
  Moved.setCell (S := fun k => k = g) (p := ⟨g, o + 5, none⟩) (Moved.setCell (S := fun k => k = g) (p := ⟨g, o + 4, none⟩) (Moved.setCell (S := fun k => k = g) (p := ⟨g, o + 3, none⟩) (Moved.setCell (S := fun k => k = g) (p := ⟨g, o + 2, none⟩) (Moved.setCell (S := fun k => k = g) (p := ⟨g, o + 1, none⟩) (Moved.setCell (S := fun k => k = g) (p := ⟨g, o, none⟩) (Moved.refl _ w) (fun _ => rfl) _) (fun _ => rfl) _) (fun _ => rfl) _) (fun _ => rfl) _) (fun _ => rfl) _) (fun _ => rfl) _
theorem okL_all : ∀ {l : List Tr}, (∀ x ∈ l, okT x) → okL l
  | [], _ => trivial
  | t :: r, h => by
    simp only [okL]
    exact ⟨h t (by simp), okL_all fun x hx => h x (by simp [hx])⟩
theorem own_set_set {w : World} {B g n c q : Nat} {vs : List Value} {a b : Value} : OwnN w B (.slice (some ⟨g, 0, none⟩) n c) ((vs.set q a).set q b) ↔ OwnN w B (.slice (some ⟨g, 0, none⟩) n c) (vs.set q b) := by rw [List.set_set]
/-- The steps of the statement that sorts a child: the call turns the child's blocks, the store the row. -/
def stepS (W B : Nat) (Sx : Nat → Prop) (gL n c q : Nat) (i : Nat) (w w' : World) : Prop :=
  w = w' ∨ (i = 4 ∧ w.heap.size = W ∧ Moved Sx w w' ∧ w.heap.size < w'.heap.size) ∨
  (i = 6 ∧ W < w.heap.size ∧ w.heap.size ≤ w'.heap.size ∧ Moved (fun g => g = gL) w w' ∧ ∃ y, Node6 y ∧ ∀ vs, q < vs.length → OwnN w B (.slice (some ⟨gL, 0, none⟩) n c) vs → OwnN w' B (.slice (some ⟨gL, 0, none⟩) n c) (vs.set q y))
theorem stepS_moved {W B : Nat} {Sx : Nat → Prop} {gL n c q : Nat} (i : Nat) (w w' : World) (h : stepS W B Sx gL n c q i w w') : Moved (fun g => Sx g ∨ g = gL) w w' := by
  rcases h with rfl | ⟨_, _, hm, _⟩ | ⟨_, _, _, hm, _⟩
  · exact Moved.refl _ _
  · exact hm.mono (fun _ _ h => .inl h)
  · exact hm.mono (fun _ _ h => .inr h)
theorem set_same {vs : List Value} {q : Nat} {x : Value} (h : vs[q]? = some x) : vs.set q x = vs := by
  apply List.ext_getElem?
  intro i
  rw [List.getElem?_set]
  split
  · rename_i e; subst e
    split
    · exact h.symm
    · rename_i hn; rw [List.getElem?_eq_none (by omega)]
  · rfl
theorem stepS_row {W B : Nat} {Sx : Nat → Prop} {gL n c q : Nat} {VV : List Value} {y : Value} {i : Nat} (hi : i ≠ 6) {w w' : World} (ht : stepS W B Sx gL n c q i w w') (h : W < w.heap.size ∧ OwnN w B (.slice (some ⟨gL, 0, none⟩) n c) (VV.set q y)) : W < w'.heap.size ∧ OwnN w' B (.slice (some ⟨gL, 0, none⟩) n c) (VV.set q y) := by
  rcases ht with rfl | ⟨_, e, _⟩ | ⟨e, _⟩
  · exact h
  · omega
  · exact absurd e hi
theorem stepS_pre {W B : Nat} {Sx : Nat → Prop} {gL n c q : Nat} {VV : List Value} {x : Tr} {xv : Value} {i : Nat} (hi : i ≠ 4) {w w' : World} (ht : stepS W B Sx gL n c q i w w') (h : w.heap.size = W ∧ OwnT w B x xv Sx ∧ OwnN w B (.slice (some ⟨gL, 0, none⟩) n c) VV) : w'.heap.size = W ∧ OwnT w' B x xv Sx ∧ OwnN w' B (.slice (some ⟨gL, 0, none⟩) n c) VV := by
  rcases ht with rfl | ⟨e, _⟩ | ⟨_, e, _⟩
  · exact h
  · exact absurd e hi
  · omega
/-- What the call has left: the child sorted, its blocks. -/
def DoneS (W B : Nat) (Sx : Nat → Prop) (gL n c q : Nat) (VV : List Value) (x : Tr) (y : Value) (w : World) : Prop :=
  W < w.heap.size ∧ (∃ Sy, OwnT w B (sortT x) y Sy ∧ ∀ g, Sy g → Sx g ∨ (W ≤ g ∧ g < w.heap.size)) ∧ ∃ z, OwnN w B (.slice (some ⟨gL, 0, none⟩) n c) (VV.set q z)
theorem DoneS.step {W B : Nat} {Sx : Nat → Prop} {gL n c q : Nat} {VV : List Value} {x : Tr} {y : Value} (hq : q < VV.length) (hL : ¬ Sx gL ∧ gL < W) {i : Nat} (hi : i ≠ 4) {w w' : World} (ht : stepS W B Sx gL n c q i w w') (h : DoneS W B Sx gL n c q VV x y w) : DoneS W B Sx gL n c q VV x y w' := by
  rcases ht with rfl | ⟨e, _⟩ | ⟨_, hW, hsz, hm, u, hu, hst⟩
  · exact h
  · exact absurd e hi
  · obtain ⟨h1, ⟨Sy, ho, hs⟩, z, hz⟩ := h
    refine ⟨by omega, ⟨Sy, ho.kept hm (fun g hg e => ?_), fun g hg => (hs g hg).imp id fun h => ⟨h.1, by omega⟩⟩, u, ?_⟩
    · subst e
      rcases hs _ hg with h | h
      · exact hL.1 h
      · omega
    · have := hst _ (by rw [List.length_set]; exact hq) hz
      rwa [List.set_set] at this
/-- Between two rounds of the loop over the children: the first q are sorted. -/
def LoopS (wc wr : World) (B : Nat) (S' : Nat → Prop) (lv : Value) (l : List Tr) (q : Nat) : Prop :=
  ∃ vs1 vs2 S1 S2, vs1.length = q ∧ OwnN wr B lv (vs1 ++ vs2) ∧ KidsO wr B (sortL (l.take q)) vs1 S1 ∧ KidsO wr B (l.drop q) vs2 S2 ∧ (∀ g, S1 g → ¬ S2 g) ∧ (∀ g, S1 g → S' g ∨ Fresh wc wr g) ∧ (∀ g, S2 g → S' g) ∧
    Moved (fun g => S' g ∨ lv.ownBlock = some g) wc wr
/-- A step that keeps the rows as they are or writes them for good. -/
structure MonR (S : Nat → Prop) (P0 P1 Q0 Q1 : World → Prop) (w w' : World) : Prop where
  moved : Moved S w w'
  p1 : P1 w → P1 w'
  p0 : P0 w ∨ P1 w → P0 w' ∨ P1 w'
  q1 : Q1 w → Q1 w'
  q0 : Q0 w ∨ Q1 w → Q0 w' ∨ Q1 w'
theorem MonR.refl {S : Nat → Prop} {P0 P1 Q0 Q1 : World → Prop} (w : World) : MonR S P0 P1 Q0 Q1 w w := ⟨Moved.refl _ _, id, id, id, id⟩
theorem MonR.trans {S : Nat → Prop} {P0 P1 Q0 Q1 : World → Prop} {a b c : World} (h : MonR S P0 P1 Q0 Q1 a b) (k : MonR S P0 P1 Q0 Q1 b c) : MonR S P0 P1 Q0 Q1 a c :=
  ⟨h.moved.trans' k.moved, fun x => k.p1 (h.p1 x), fun x => k.p0 (h.p0 x), fun x => k.q1 (h.q1 x), fun x => k.q0 (h.q0 x)⟩
/-- The first q of a permuted list, the others zero. -/
def halfS {α : Type} {n : Nat} (p : List (Fin n)) (f : Nat → α) (z : α) (q : Nat) : List α := (p.take q).map (fun x => f x.1) ++ List.replicate (n - q) z
section
variable {α : Type} {n : Nat} {p : List (Fin n)} {f : Nat → α} {z : α}
theorem halfS_zero : halfS p f z 0 = List.replicate n z := by simp [halfS]
theorem halfS_all (hp : p.length = n) : halfS p f z n = p.map fun x => f x.1 := by
  unfold halfS
  rw [List.take_of_length_le (by omega)]; simp
theorem halfS_length (hp : p.length = n) {q : Nat} (hq : q ≤ n) : (halfS p f z q).length = n := by simp [halfS, hp]; omega
theorem halfS_get (hp : p.length = n) {q : Nat} (hq : q < n) : (halfS p f z q)[q]? = some z := by
  have : (p.take q).length = q := by rw [List.length_take]; omega
  unfold halfS
  rw [List.getElem?_append_right (by rw [List.length_map]; omega), List.length_map, this, Nat.sub_self, List.getElem?_replicate, if_pos (by omega)]
theorem halfS_set (hp : p.length = n) {q : Nat} {x : Fin n} (hx : p[q]? = some x) : (halfS p f z q).set q (f x.1) = halfS p f z (q + 1) := by
  have hq : q < n := by have := (List.getElem?_eq_some_iff.1 hx).1; omega
  have h1 : (p.take q).length = q := by rw [List.length_take]; omega
  unfold halfS
  rw [List.set_append_right _ _ (by rw [List.length_map]; omega), List.length_map, h1, Nat.sub_self, show n - q = (n - (q + 1)) + 1 by omega, List.replicate_succ, List.set_cons_zero, List.take_add_one, hx]
  simp
end
theorem OwnN.at {w : World} {B g n c : Nat} {vs : List Value} (h : OwnN w B (.slice (some ⟨g, 0, none⟩) n c) vs) {i : Nat} {x : Value} (hx : vs[i]? = some x) : Cells6 w g (i * 6) x := by
  obtain ⟨a, c', e, _, _, _, h1⟩ := h.rows
  injection e with e1 _ _
  obtain ⟨b, off, e2, h2⟩ := h1 i x hx
  rw [← e1] at e2
  injection e2 with e2
  cases e2
  rwa [Nat.zero_add] at h2
theorem OwnN.frozen {w : World} {B g n c : Nat} {vs : List Value} (h : OwnN w B (.slice (some ⟨g, 0, none⟩) n c) vs) (j : Nat) : w.frozen? ⟨g, j, none⟩ = false := by
  have hn : n = vs.length := by
    obtain ⟨a, c, e, _⟩ := rows_form h.1
    injection e
  subst hn
  exact rows_frozen h.1 j
theorem OwnS.at {w : World} {B g n c : Nat} {ss : List ByteArray} (h : OwnS w B (.slice (some ⟨g, 0, none⟩) n c) ss) {i : Nat} {x : ByteArray} (hx : ss[i]? = some x) : w.cell? ⟨g, i, none⟩ = some (.string x) := by
  have := World.ownsRow.cells h (g := g) rfl i (.string x) (by simp [hx])
  rw [add0, Nat.zero_add] at this
  exact this
theorem OwnS.frozen {w : World} {B g n c : Nat} {ss : List ByteArray} (h : OwnS w B (.slice (some ⟨g, 0, none⟩) n c) ss) (j : Nat) : w.frozen? ⟨g, j, none⟩ = false := by
  have hn : n = ss.length := by
    obtain ⟨a, c, e, _⟩ := rows_form h
    injection e
  subst hn
  exact rows_frozen h j
/-- Where the entries lie in order, ahead of the children's turn. -/
def MidS (w : World) (B : Nat) (S S' : Nat → Prop) (k n u : Int) (s : ByteArray) (T : Tr) (m : Nat) (wc : World) : Prop :=
  ∃ keys3 l3 vs3 kv3 lv3, sortT T = .mk k n u s keys3 (sortL l3) ∧ okL l3 ∧ (∀ x ∈ l3, x.size ≤ m) ∧ l3.length ≤ 4096 ∧ (∀ x ∈ keys3, lenok x.size) ∧
    wc.heap[w.heap.size]? = some (.cells #[.int .i64 k, .int .i64 n, .int .u64 u, .string s, kv3, lv3] 27 (0, 0)) ∧
    wc.heap[w.heap.size + 1]? = some (.cells #[.int .i64 0, .int .i64 0, .int .u64 0, .string ⟨#[]⟩, .slice none 0 0, .slice none 0 0] 27 (0, 0)) ∧
    OwnS wc B kv3 keys3 ∧ OwnN wc B lv3 vs3 ∧ KidsO wc B l3 vs3 S' ∧
    (∀ g, kv3.ownBlock = some g → (S g ∨ Fresh w wc g) ∧ ¬ S' g ∧ lv3.ownBlock ≠ some g) ∧ (∀ g, lv3.ownBlock = some g → (S g ∨ Fresh w wc g) ∧ ¬ S' g ∧ g ≠ w.heap.size ∧ g ≠ w.heap.size + 1) ∧ Grew w wc
theorem sorted_close {w wc wr : World} {B N : Nat} {S S' : Nat → Prop} {k n u : Int} {s : ByteArray} {keys3 : List ByteArray} {l3 : List Tr} {kv lv : Value} {T : Tr} {cs : Array Value} (hst : sortT T = .mk k n u s keys3 (sortL l3)) (hb : i64ok k ∧ i64ok n ∧ u64ok u ∧ lenok s.size)
    (hlk : ∀ x ∈ keys3, lenok x.size) (hN : w.heap.size = N) (hgw : Grew w wc) (hkv : OwnS wc B kv keys3) (hlvb : ∀ g, lv.ownBlock = some g → g < wc.heap.size)
    (hk3 : ∀ g, kv.ownBlock = some g → (S g ∨ Fresh w wc g) ∧ ¬ S' g ∧ lv.ownBlock ≠ some g) (hl3 : ∀ g, lv.ownBlock = some g → (S g ∨ Fresh w wc g) ∧ ¬ S' g ∧ g ≠ N ∧ g ≠ N + 1)
    (hS' : ∀ g, S' g → S g) (hSw : ∀ g, S g → g < w.heap.size) (hlN : N + 1 < wc.heap.size) (hbR : wr.heap[N + 1]? = some (.cells cs 27 (0, 0))) (hkr : OwnS wr B kv keys3) (hL : LoopS wc wr B S' lv l3 l3.length) :
    ∃ S'', OwnT (store6 wr (N + 1) (.int .i64 k) (.int .i64 n) (.int .u64 u) (.string s) kv lv) B (sortT T) (.agg #[.int .i64 k, .int .i64 n, .int .u64 u, .string s, kv, lv]) S'' ∧
      Moved S w (store6 wr (N + 1) (.int .i64 k) (.int .i64 n) (.int .u64 u) (.string s) kv lv) ∧ w.heap.size < (store6 wr (N + 1) (.int .i64 k) (.int .i64 n) (.int .u64 u) (.string s) kv lv).heap.size ∧
      ∀ g, S'' g → S g ∨ Fresh w (store6 wr (N + 1) (.int .i64 k) (.int .i64 n) (.int .u64 u) (.string s) kv lv) g := by
  obtain ⟨vs1, vs2, S1, S2, hq1, hrow, hk1, hk2, hdis, hs1, hs2, hm⟩ := hL
  rw [List.drop_length] at hk2
  simp only [KidsO] at hk2
  subst hk2
  rw [List.take_length] at hk1
  rw [List.append_nil] at hrow
  have hT : Moved (fun k => k = N + 1) wr (store6 wr (N + 1) (.int .i64 k) (.int .i64 n) (.int .u64 u) (.string s) kv lv) := moved_store6 wr (N + 1) (.int .i64 k) (.int .i64 n) (.int .u64 u) (.string s) kv lv
  generalize store6 wr (N + 1) (.int .i64 k) (.int .i64 n) (.int .u64 u) (.string s) kv lv = W at *
  have hsz1 := hgw.size
  have hsz2 := hm.size
  have hsz3 := hT.size
  have hkb : ∀ g, kv.ownBlock = some g → g < wc.heap.size := fun g hg => (World.ownsRow.lt hkv g hg).2
  refine ⟨fun g => kv.ownBlock = some g ∨ lv.ownBlock = some g ∨ S1 g, ?_, ?_, by omega, ?_⟩
  · rw [hst]
    simp only [OwnT]
    refine ⟨⟨hb.1, hb.2.1, hb.2.2.1, hb.2.2.2, hlk⟩, kv, lv, vs1, S1, rfl, Moved.owns hT hkr (fun g hg e => ?_), ⟨Moved.owns hT hrow.1 (fun g hg e => ?_), hrow.2⟩, fun g hg => ⟨.inl hg, fun h => ?_⟩, fun g hg => ⟨.inr (.inl hg), fun h => ?_⟩, fun g hg => (hk3 g hg).2.2, fun g h => .inr (.inr h), hk1.kept hT (fun g h e => ?_)⟩
    · exact not_block hkr hbR (by decide) (e ▸ hg)
    · exact (hl3 g hg).2.2.2 e
    · rcases hs1 g h with e | e
      · exact (hk3 g hg).2.1 e
      · have := hkb g hg; have := e.1; omega
    · rcases hs1 g h with e | e
      · exact (hl3 g hg).2.1 e
      · have := hlvb g hg; have := e.1; omega
    · rcases hs1 g h with e' | e'
      · have := hSw g (hS' g e'); omega
      · have := e'.1; omega
  · refine ((Moved.of_grew hgw).trans hm (fun j hj h => ?_)).trans hT (fun j hj h => by omega)
    rcases h with h | h
    · exact hS' j h
    · rcases (hl3 j h).1 with e | e
      · exact e
      · have := e.1; omega
  · rintro g (h | h | h)
    · exact (hk3 g h).1.imp id fun e => ⟨e.1, by have := e.2; omega⟩
    · exact (hl3 g h).1.imp id fun e => ⟨e.1, by have := e.2; omega⟩
    · rcases hs1 g h with e | e
      · exact .inl (hS' g e)
      · exact .inr ⟨by have := e.1; omega, by have := e.2; omega⟩
theorem getD_zip {keys : List ByteArray} {l : List Tr} (h : keys.length = l.length) (i : Nat) (a : ByteArray) (b : Tr) : (keys.zip l).getD i (a, b) = (keys.getD i a, l.getD i b) := by
  simp only [List.getD_eq_getElem?_getD]
  by_cases hi : i < l.length
  · rw [List.getElem?_eq_getElem (by simp; omega), List.getElem?_eq_getElem (by omega), List.getElem?_eq_getElem hi]; simp
  · rw [List.getElem?_eq_none (by simp; omega), List.getElem?_eq_none (by omega), List.getElem?_eq_none (by omega)]; rfl
/-- The order of the keys, as lists. -/
theorem sortT_perm {n u : Int} {s : ByteArray} {keys : List ByteArray} {l : List Tr} (hl : keys.length = l.length) {p : List (Fin keys.length)} (hp : p.Perm (List.finRange keys.length)) (hs : ∀ (i j : Nat) x y, i < j → p[i]? = some x → p[j]? = some y → ltS keys[x] keys[y] = true) (a : ByteArray) (b : Tr) :
    sortT (.mk 17 n u s keys l) = .mk 17 n u s (p.map fun x => keys.getD x.1 a) (sortL (p.map fun x => l.getD x.1 b)) := by
  have h1 := perm_sortP hl hp hs (a, b)
  have h2 : sortP (keys.zip (sortL l)) = (sortP (keys.zip l)).map fun q => (q.1, sortT q.2) := by
    rw [sortP_map, sortL_map]
    congr 1
    apply List.ext_getElem (by simp)
    intro i _ _
    simp
  simp only [sortT, if_true, h2, ← h1, List.map_map]
  congr 1
  · apply List.map_congr_left
    intro x _
    simp only [Function.comp, getD_zip hl]
  · rw [sortL_map, List.map_map]
    apply List.map_congr_left
    intro x _
    simp only [Function.comp, getD_zip hl]
set_option maxRecDepth 100000 in
set_option maxHeartbeats 4000000 in
theorem ksorted_any : ∀ (m : Nat) (t : Tr), t.size ≤ m → okT t → ∀ (v : Value) (w : World) (B : Nat) (S : Nat → Prop), OwnT w B t v S → B ≤ w.heap.size → (∀ g, S g → g < w.heap.size) →
    Calls Try.prog 40 #[v] w fun r w' => ∃ v' S', r = .returned v' ∧ OwnT w' B (sortT t) v' S' ∧ Moved S w w' ∧ w.heap.size < w'.heap.size ∧ ∀ g, S' g → S g ∨ Fresh w w' g := by
  intro m
  induction m with
  | zero => intro t ht; have := t.size_pos; omega
  | succ m ih =>
  intro t ht hok v w B S hown hBw hSw
  have hv6 := hown.node6
  obtain ⟨k, n, u, s, keys, l⟩ := t
  simp only [OwnT] at hown
  obtain ⟨hb, kv, lv, vs, S', rfl, hkv, hlv, d1, d2, d3, d4, hkids⟩ := hown
  have hkl : vs.length = l.length := hkids.length
  simp only [okT] at hok
  obtain ⟨hok1, hok2, hok3, hok4⟩ := hok
  have hsz : ∀ x ∈ l, x.size ≤ m := fun x hx => by have := size_mem hx; simp only [Tr.size] at ht; omega
  have HIH := Lib.hid ih
  have HB := Lib.hid hb
  have HOWN := Lib.hid (And.intro hkv (And.intro hlv hkids))
  have HD := Lib.hid (And.intro d1 (And.intro d2 (And.intro d3 d4)))
  have HOK := Lib.hid (And.intro hok1 hok4)
  have HSZ := Lib.hid hsz
  have HBW := Lib.hid hBw
  have HSW := Lib.hid hSw
  obtain ⟨a4, c4, rfl, hx1, hx2, hx3⟩ := rows_form hkv
  obtain ⟨a5, c5, rfl, hx4, hx5, hx6⟩ := rows_form hlv.1
  have HFR : Hid ((∀ g, (Value.slice a5 vs.length c5).ownBlock = some g → g < w.heap.size) ∧ (∀ g, (Value.slice a4 keys.length c4).ownBlock = some g → g < w.heap.size)) := ⟨fun g hg => (World.ownsRow.lt hlv.1 g hg).2, fun g hg => (World.ownsRow.lt hkv g hg).2⟩
  clear ih hb hkv hlv hkids d1 d2 d3 d4 hok1 hok4 hsz hBw hSw hx1 hx2 hx3 hx4 hx5 hx6 ht
  rw [hkl] at HOWN HD HFR hv6 ⊢
  have HKL := Lib.hid hkl
  clear hkl
  go_enter Try.func40, Try.ntmps40
  go_upto_if 13 with fail
  have hb1 := heap_alloc_new w (.cells #[.int .i64 k, .int .i64 n, .int .u64 u, .string s, .slice a4 keys.length c4, .slice a5 l.length c5] 27)
  have hg1 := (Grew.refl w).alloc (.cells #[.int .i64 k, .int .i64 n, .int .u64 u, .string s, .slice a4 keys.length c4, .slice a5 l.length c5] 27)
  have hs1 : (w.alloc (.cells #[.int .i64 k, .int .i64 n, .int .u64 u, .string s, .slice a4 keys.length c4, .slice a5 l.length c5] 27)).heap.size = w.heap.size + 1 := World.size_alloc _ _
  generalize (w.alloc (.cells #[.int .i64 k, .int .i64 n, .int .u64 u, .string s, .slice a4 keys.length c4, .slice a5 l.length c5] 27)) = w1 at *
  have hb2 := heap_alloc_new w1 (.cells #[.int .i64 0, .int .i64 0, .int .u64 0, .string ⟨#[]⟩, .slice none 0 0, .slice none 0 0] 27)
  have hg2 := (Grew.refl w1).alloc (.cells #[.int .i64 0, .int .i64 0, .int .u64 0, .string ⟨#[]⟩, .slice none 0 0, .slice none 0 0] 27)
  have hs2 : (w1.alloc (.cells #[.int .i64 0, .int .i64 0, .int .u64 0, .string ⟨#[]⟩, .slice none 0 0, .slice none 0 0] 27)).heap.size = w1.heap.size + 1 := World.size_alloc _ _
  rw [hs1] at hb2 hs2
  generalize (w1.alloc (.cells #[.int .i64 0, .int .i64 0, .int .u64 0, .string ⟨#[]⟩, .slice none 0 0, .slice none 0 0] 27)) = w2 at *
  replace hb1 := hg2.heap hb1
  have hG := hg1.trans hg2
  have hs2' : w2.heap.size = w.heap.size + 2 := by omega
  have HBX := Lib.hid (And.intro hb1 hb2)
  have HG := Lib.hid hG
  have HS2 := Lib.hid hs2'
  obtain ⟨N, hN⟩ : ∃ N, w.heap.size = N := ⟨_, rfl⟩
  have HN := Lib.hid hN
  rw [hN] at hb1 hb2 ⊢
  clear hs1 hs2 hs2' hg1 hg2 hG hN
  go_cut [] (fun wc => Hid (MidS w B S S' k n u s (.mk k n u s keys l) m wc))
  case first =>
    have d0 := row_cellT hb1 0 _ rfl
    have d4 := row_cellT hb1 4 _ rfl
    have d5 := row_cellT hb1 5 _ rfl
    have f4 := row_frozen hb1 4
    have f5 := row_frozen hb1 5
    clear hb1 hb2
    by_cases hk : k = 17
    rotate_left
    · have HM : Hid (MidS w B S S' k n u s (.mk k n u s keys l) m w2) := by
        refine ⟨keys, l, vs, _, _, ?_, HOK.out.2, HSZ.out, hok3, HB.out.2.2.2.2, HBX.out.1, HBX.out.2, HOWN.out.1.grew HG.out, HOWN.out.2.1.grew HG.out, HOWN.out.2.2.grew HG.out, ?_, ?_, HG.out⟩
        · simp only [sortT]; rw [if_neg hk]
        · exact fun g hg => ⟨.inl (HD.out.1 g hg).1, (HD.out.1 g hg).2, HD.out.2.2.1 g hg⟩
        · exact fun g hg => ⟨.inl (HD.out.2.1 g hg).1, (HD.out.2.1 g hg).2, by have := HFR.out.1 g hg; omega, by have := HFR.out.1 g hg; omega⟩
      have hkb : (k == 17) = false := by simpa using hk
      clear hk
      go_wp2_with fail
      go_meet
      case rel => exact HM
    subst hk
    obtain ⟨hnd, hkl2⟩ := HOK.out.1 rfl
    have HKL2 := Lib.hid hkl2
    have HND := Lib.hid hnd
    have HSTR : Hid (StrsAt w2 (.slice a4 keys.length c4) keys) := (HOWN.out.1.strs HB.out.2.2.2.2).grew HG.out
    clear hnd hkl2
    go_wp2_with fail
    refine (order_any keys hok2 _ _ HSTR.out).mono ?_
    rintro r w3 ⟨hg3, ⟨hno, _⟩ | ⟨_, pv, rfl, blk, cap, p, rfl, hp, hps, hpc, rfl⟩⟩
    · exact absurd HND.out hno
    replace d0 := hg3.cell d0
    replace d4 := hg3.cell d4
    replace d5 := hg3.cell d5
    have HP := Lib.hid hp
    have HPS := Lib.hid hps
    have HPC := Lib.hid hpc
    have HG3 := Lib.hid hg3
    clear hp hps hpc hg3 f4 f5
    have hm1 := run_make_strs keys.length hok2
    have hm2 := run_make_nodes keys.length hok2
    go_wp2_with fail
    refine wp_region_tables Grew [[], [0], [1], [], [3], [4], [2], [5]] [[(22, 2), (23, 3), (24, 4), (25, 5), (5, 6), (6, 7)], [(20, 0), (23, 3), (24, 4), (25, 5), (5, 6), (6, 7)], [(20, 0), (21, 1), (23, 3), (24, 4), (25, 5), (6, 7)], [(20, 0), (21, 1), (22, 2), (25, 5), (5, 6), (6, 7)], [(20, 0), (21, 1), (22, 2), (23, 3), (5, 6), (6, 7)], [(20, 0), (21, 1), (22, 2), (23, 3), (24, 4), (5, 6)], [(20, 0), (21, 1), (22, 2), (23, 3), (24, 4), (25, 5), (6, 7)], [(20, 0), (21, 1), (22, 2), (23, 3), (24, 4), (25, 5), (5, 6)]] [(20, 0), (21, 1), (22, 2), (23, 3), (24, 4), (25, 5), (5, 6), (6, 7)]
      [Is (.slice (some ⟨blk, 0, none⟩) keys.length keys.length), Is (.int .i64 keys.length), fun v w => ∃ g, v = .slice (some ⟨g, 0, none⟩) keys.length keys.length ∧ w3.heap.size ≤ g ∧ w.heap[g]? = some (.cells (madeCells #[.string ⟨#[]⟩] keys.length) 9 (0, 0)), Is (.slice (some ⟨blk, 0, none⟩) keys.length keys.length), Is (.int .i64 keys.length), fun v w => ∃ g, v = .slice (some ⟨g, 0, none⟩) keys.length keys.length ∧ w3.heap.size ≤ g ∧ w.heap[g]? = some (.cells (madeCells #[.int .i64 0, .int .i64 0, .int .u64 0, .string ⟨#[]⟩, .slice none 0 0, .slice none 0 0] (keys.length * 6)) 27 (0, 0)), fun v w => ∃ g, v = .slice (some ⟨g, 0, none⟩) keys.length keys.length ∧ w3.heap.size ≤ g ∧ w.heap[g]? = some (.cells (madeCells #[.string ⟨#[]⟩] keys.length) 9 (0, 0)), fun v w => ∃ g, v = .slice (some ⟨g, 0, none⟩) keys.length keys.length ∧ w3.heap.size ≤ g ∧ w.heap[g]? = some (.cells (madeCells #[.int .i64 0, .int .i64 0, .int .u64 0, .string ⟨#[]⟩, .slice none 0 0, .slice none 0 0] (keys.length * 6)) 27 (0, 0))]
      (by kernel_rfl) Grew.trans Grew.refl (Grew.refl _).drew (by kernel_rfl) ⟨is_st, is_st, fun _ _ _ hg h => h.elim fun q h => ⟨q, h.1, h.2.1, hg.heap h.2.2⟩, is_st, is_st, fun _ _ _ hg h => h.elim fun q h => ⟨q, h.1, h.2.1, hg.heap h.2.2⟩, fun _ _ _ hg h => h.elim fun q h => ⟨q, h.1, h.2.1, hg.heap h.2.2⟩, fun _ _ _ hg h => h.elim fun q h => ⟨q, h.1, h.2.1, hg.heap h.2.2⟩, trivial⟩ ⟨?_, ?_, ?_, ?_, ?_, ?_, ?_, ?_, trivial⟩ rfl ?_
    · intro y wv hG hD K hK
      simp only [fillL, Act.put, List.setIfInBounds_toArray, List.set_cons_zero, List.set_cons_succ, List.getD_cons_zero, List.getD_cons_succ, Is] at hK ⊢
      refine ite_yes (by rfl) ?_
      go_simp
      exact hK _ _ _ rfl (Grew.refl _) rfl
    · intro y wv hG hD K hK
      simp only [depsH, List.getD_cons_zero, List.getD_cons_succ, Is, and_true] at hD
      have h0 := hD
      clear hD
      simp only [fillL, Act.put, List.setIfInBounds_toArray, List.set_cons_zero, List.set_cons_succ, List.getD_cons_zero, List.getD_cons_succ, Is] at hK ⊢
      rw [h0] at hK ⊢
      clear h0
      refine ite_yes (by rfl) ?_
      go_simp
      exact hK _ _ _ rfl (Grew.refl _) rfl
    · intro y wv hG hD K hK
      simp only [depsH, List.getD_cons_zero, List.getD_cons_succ, Is, and_true] at hD
      have h1 := hD
      clear hD
      simp only [fillL, Act.put, List.setIfInBounds_toArray, List.set_cons_zero, List.set_cons_succ, List.getD_cons_zero, List.getD_cons_succ, Is] at hK ⊢
      rw [h1] at hK ⊢
      clear h1
      refine ite_yes (by rfl) ?_
      go_simp
      exact hK _ _ _ rfl ((Grew.refl _).alloc _) ⟨_, rfl, hG.size, heap_alloc_new _ _⟩
    · intro y wv hG hD K hK
      simp only [fillL, Act.put, List.setIfInBounds_toArray, List.set_cons_zero, List.set_cons_succ, List.getD_cons_zero, List.getD_cons_succ, Is] at hK ⊢
      refine ite_yes (by rfl) ?_
      go_simp
      exact hK _ _ _ rfl (Grew.refl _) rfl
    · intro y wv hG hD K hK
      simp only [depsH, List.getD_cons_zero, List.getD_cons_succ, Is, and_true] at hD
      have h3 := hD
      clear hD
      simp only [fillL, Act.put, List.setIfInBounds_toArray, List.set_cons_zero, List.set_cons_succ, List.getD_cons_zero, List.getD_cons_succ, Is] at hK ⊢
      rw [h3] at hK ⊢
      clear h3
      refine ite_yes (by rfl) ?_
      go_simp
      exact hK _ _ _ rfl (Grew.refl _) rfl
    · intro y wv hG hD K hK
      simp only [depsH, List.getD_cons_zero, List.getD_cons_succ, Is, and_true] at hD
      have h4 := hD
      clear hD
      simp only [fillL, Act.put, List.setIfInBounds_toArray, List.set_cons_zero, List.set_cons_succ, List.getD_cons_zero, List.getD_cons_succ, Is] at hK ⊢
      rw [h4] at hK ⊢
      clear h4
      refine ite_yes (by rfl) ?_
      go_simp
      exact hK _ _ _ rfl ((Grew.refl _).alloc _) ⟨_, rfl, hG.size, heap_alloc_new _ _⟩
    · intro y wv hG hD K hK
      simp only [depsH, List.getD_cons_zero, List.getD_cons_succ, Is, and_true] at hD
      have h2 := hD
      clear hD
      simp only [fillL, Act.put, List.setIfInBounds_toArray, List.set_cons_zero, List.set_cons_succ, List.getD_cons_zero, List.getD_cons_succ, Is] at hK ⊢
      refine ite_yes (by rfl) ?_
      go_simp
      exact hK _ _ _ rfl (Grew.refl _) h2
    · intro y wv hG hD K hK
      simp only [depsH, List.getD_cons_zero, List.getD_cons_succ, Is, and_true] at hD
      have h5 := hD
      clear hD
      simp only [fillL, Act.put, List.setIfInBounds_toArray, List.set_cons_zero, List.set_cons_succ, List.getD_cons_zero, List.getD_cons_succ, Is] at hK ⊢
      refine ite_yes (by rfl) ?_
      go_simp
      exact hK _ _ _ rfl (Grew.refl _) h5
    · intro y wv hG hF
      simp only [factsH, Is, and_true, Nat.reduceAdd] at hF
      have h0 := hF.1
      have h1 := hF.2.1
      have h2 := hF.2.2.1
      have h3 := hF.2.2.2.1
      have h4 := hF.2.2.2.2.1
      have h5 := hF.2.2.2.2.2.1
      have h6 := hF.2.2.2.2.2.2.1
      have h7 := hF.2.2.2.2.2.2.2
      clear hF
      simp only [fillL, Act.put, List.setIfInBounds_toArray, List.set_cons_zero, List.set_cons_succ, List.getD_cons_zero, List.getD_cons_succ, Is]
      rw [h0, h1, h3, h4]
      clear h0 h1 h3 h4
      refine Exists.elim h2 fun g2 e2 => ?_
      refine Exists.elim h5 fun g5 e5 => ?_
      refine Exists.elim h6 fun gk e6 => ?_
      refine Exists.elim h7 fun gl e7 => ?_
      have q2 := e2.1
      have q5 := e5.1
      have q6 := e6.1
      have q7 := e7.1
      rw [q2, q5, q6, q7]
      have HGK := Lib.hid e6.2
      have HGL := Lib.hid e7.2
      have HGV := Lib.hid hG
      clear h2 h5 h6 h7 e2 e5 e6 e7 q2 q5 q6 q7 hG hm1 hm2 d0 d4 d5
      have HNE : Hid (gk ≠ gl) := by
        show _ ≠ _
        intro e
        subst e
        have h1 := HGK.out.2
        rw [HGL.out.2] at h1
        simp at h1
      go_wp2_with fail
      go_loopw [28] (fun i wr => ∃ q : Nat, q ≤ keys.length ∧ i = .int .i64 q ∧ Hid (OwnS wr B (.slice (some ⟨gk, 0, none⟩) keys.length keys.length) (halfS p (fun x => keys.getD x ⟨#[]⟩) ⟨#[]⟩ q) ∧ OwnN wr B (.slice (some ⟨gl, 0, none⟩) keys.length keys.length) (halfS p (fun x => vs.getD x zeroNode) zeroNode q) ∧ Moved (fun g => g = gk ∨ g = gl) wv wr)) (fun i _ => keys.length - (intOf i).toNat)
      case atStart =>
        refine ⟨0, Nat.zero_le _, rfl, ?_⟩
        show _ ∧ _ ∧ _
        have hB3 : B ≤ w3.heap.size := Nat.le_trans HBW.out (Nat.le_trans HG.out.size HG3.out.size)
        refine ⟨?_, ?_, Moved.refl _ _⟩
        · rw [halfS_zero]; exact own_made_strs hok2 (Nat.le_trans hB3 HGK.out.1) HGK.out.2
        · rw [halfS_zero]; exact own_made_nodes hok2 (Nat.le_trans hB3 HGL.out.1) HGL.out.2
      case round =>
        obtain ⟨q, hq, rfl, HW⟩ := hrel
        have hgw3 : Grew w3 wr := Moved.fresh HGV.out HW.out.2.2 (fun g h => by rcases h with rfl | rfl; exact HGK.out.1; exact HGL.out.1)
        have HGW := Lib.hid hgw3
        clear hgw3
        have HBN : Hid (wr.heap[N]? = some (.cells #[.int .i64 17, .int .i64 n, .int .u64 u, .string s, .slice a4 keys.length c4, .slice a5 l.length c5] 27 (0, 0))) := by
          show _ = _
          rw [← HN.out]
          exact HGW.out.heap (HG3.out.heap HBX.out.1)
        have d4 := row_cellT HBN.out 4 _ rfl
        have d5 := row_cellT HBN.out 5 _ rfl
        by_cases hlt : q < keys.length
        · obtain ⟨x, hx⟩ : ∃ x, p[q]? = some x := ⟨_, List.getElem?_eq_getElem (by rw [perm_len HP.out]; exact hlt)⟩
          have pc := HGW.out.cell (HPC.out q x hx)
          have hkx2 := HKL2.out
          have hpl := perm_len HP.out
          obtain ⟨xi, hxi⟩ := x
          have pc' : wr.cell? ⟨blk, q, none⟩ = some (.int .i64 (xi : Int)) := pc
          clear pc
          have hxl : xi < l.length := by omega
          obtain ⟨ks, hks⟩ : ∃ ks, keys[xi]? = some ks := ⟨_, List.getElem?_eq_getElem hxi⟩
          obtain ⟨xv, hxv⟩ : ∃ xv, vs[xi]? = some xv := ⟨_, List.getElem?_eq_getElem (by have := HKL.out; omega)⟩
          have hx6 := HOWN.out.2.1.2 xv (List.mem_of_getElem? hxv)
          have HS1 : Hid ((halfS p (fun x => keys.getD x ⟨#[]⟩) ⟨#[]⟩ q).set q ks = halfS p (fun x => keys.getD x ⟨#[]⟩) ⟨#[]⟩ (q + 1)) := by
            show _ = _
            rw [← halfS_set hpl hx]; simp [List.getD_eq_getElem?_getD, hks]
          have HS2' : Hid ((halfS p (fun x => vs.getD x zeroNode) zeroNode q).set q xv = halfS p (fun x => vs.getD x zeroNode) zeroNode (q + 1)) := by
            show _ = _
            rw [← halfS_set hpl hx]; simp [List.getD_eq_getElem?_getD, hxv]
          have HVL : Hid ((halfS p (fun x => vs.getD x zeroNode) zeroNode q).length = keys.length) := halfS_length hpl hq
          obtain ⟨b4, o4, rfl, k1, hb4⟩ : ∃ b4 o4, a4 = some ⟨b4, o4, none⟩ ∧ wr.cell? ⟨b4, o4 + xi, none⟩ = some (.string ks) ∧ b4 < w3.heap.size := by
            obtain ⟨a', c', e', _, _, _, h⟩ := HSTR.out
            injection e' with e1 _ _
            obtain ⟨_, b, off, e4, hc⟩ := h xi ks hks
            exact ⟨b, off, by rw [e1, e4], (HG3.out.trans HGW.out).cell hc, Nat.lt_of_lt_of_le (lt_of_cell hc) HG3.out.size⟩
          obtain ⟨b5, o5, rfl, h6, hb5⟩ : ∃ b5 o5, a5 = some ⟨b5, o5, none⟩ ∧ Cells6 wr b5 (o5 + xi * 6) xv ∧ b5 < w3.heap.size := by
            obtain ⟨a', c', e', _, _, _, h⟩ := HOWN.out.2.1.rows
            injection e' with e1 _ _
            obtain ⟨b, off, e4, hc⟩ := h xi xv hxv
            refine ⟨b, off, by rw [e1, e4], hc.grew (HG.out.trans (HG3.out.trans HGW.out)), ?_⟩
            obtain ⟨_, _, _, _, _, _, _, hc0, _⟩ := hc
            exact Nat.lt_of_lt_of_le (lt_of_cell hc0) (Nat.le_trans HG.out.size HG3.out.size)
          have HX6 := Lib.hid hx6
          obtain ⟨yk, yn, yu, ys, ya4, yn4, yc4, ya5, yn5, yc5, rfl⟩ := hx6
          obtain ⟨e0, e1, e2, e3, e4, e5⟩ := h6.get
          have HR : Hid (OwnS wr B (.slice (some ⟨gk, 0, none⟩) keys.length keys.length) (halfS p (fun x => keys.getD x ⟨#[]⟩) ⟨#[]⟩ q) ∧ OwnN wr B (.slice (some ⟨gl, 0, none⟩) keys.length keys.length) (halfS p (fun x => vs.getD x zeroNode) zeroNode q) ∧ Moved (fun g => g = gk ∨ g = gl) wv wr) := HW.out
          have hlti : (q : Int) < keys.length := by omega
          have hxii : (xi : Int) < keys.length := by omega
          have hxli : (xi : Int) < l.length := by omega
          have HPL := Lib.hid hpl
          clear hx hks hxv h6 HW hkx2 hpl
          go_wp2_with fail
          obtain ⟨ss0, hss0⟩ : ∃ x, halfS p (fun x => keys.getD x ⟨#[]⟩) ⟨#[]⟩ q = x := ⟨_, rfl⟩
          obtain ⟨ss1, hss1⟩ : ∃ x, halfS p (fun x => keys.getD x ⟨#[]⟩) ⟨#[]⟩ (q + 1) = x := ⟨_, rfl⟩
          obtain ⟨vv0, hvv0⟩ : ∃ x, halfS p (fun x => vs.getD x zeroNode) zeroNode q = x := ⟨_, rfl⟩
          obtain ⟨vv1, hvv1⟩ : ∃ x, halfS p (fun x => vs.getD x zeroNode) zeroNode (q + 1) = x := ⟨_, rfl⟩
          have hg0 := halfS_get (f := fun x => keys.getD x ⟨#[]⟩) (z := (⟨#[]⟩ : ByteArray)) HPL.out hlt
          have hg1 := halfS_get (f := fun x => vs.getD x zeroNode) (z := zeroNode) HPL.out hlt
          have hl1 := halfS_length (f := fun x => vs.getD x zeroNode) (z := zeroNode) HPL.out (q := q) hq
          rw [hss0] at HR HS1 hg0
          rw [hss1] at HS1
          rw [hvv0] at HR HS2' hg1 hl1
          rw [hvv1] at HS2'
          have HSS := Lib.hid (And.intro hss0 (And.intro hss1 (And.intro hvv0 hvv1)))
          clear hss0 hss1 hvv0 hvv1 HVL
          have hs11 : ss1.set q ks = ss1 := by rw [← HS1.out, List.set_set]
          have hv11 : vv1.set q (.agg #[.int .i64 yk, .int .i64 yn, .int .u64 yu, .string ys, .slice ya4 yn4 yc4, .slice ya5 yn5 yc5]) = vv1 := by rw [← HS2'.out, List.set_set]
          have hg2 : ss1[q]? = some ks := by rw [← HS1.out, List.getElem?_set_self (by have := (List.getElem?_eq_some_iff.1 hg0).1; omega)]
          have hg3' : vv1[q]? = some (.agg #[.int .i64 yk, .int .i64 yn, .int .u64 yu, .string ys, .slice ya4 yn4 yc4, .slice ya5 yn5 yc5]) := by rw [← HS2'.out, List.getElem?_set_self (by omega)]
          have hl2 : vv1.length = keys.length := by rw [← HS2'.out, List.length_set]; exact hl1
          obtain ⟨P0, hP0⟩ : ∃ P : World → Prop, P = fun w => OwnS w B (.slice (some ⟨gk, 0, none⟩) keys.length keys.length) ss0 := ⟨_, rfl⟩
          obtain ⟨P1, hP1⟩ : ∃ P : World → Prop, P = fun w => OwnS w B (.slice (some ⟨gk, 0, none⟩) keys.length keys.length) ss1 := ⟨_, rfl⟩
          obtain ⟨Q0, hQ0⟩ : ∃ P : World → Prop, P = fun w => OwnN w B (.slice (some ⟨gl, 0, none⟩) keys.length keys.length) vv0 := ⟨_, rfl⟩
          obtain ⟨Q1, hQ1⟩ : ∃ P : World → Prop, P = fun w => OwnN w B (.slice (some ⟨gl, 0, none⟩) keys.length keys.length) vv1 := ⟨_, rfl⟩
          have HPQ : Hid (P0 wr ∧ Q0 wr ∧ Moved (fun g => g = gk ∨ g = gl) wv wr) := by
            show _ ∧ _ ∧ _
            rw [hP0, hQ0]; exact HR.out
          -- the keys' row
          have HOP15 : Hid (∀ w, P0 w ∨ P1 w → (w.frozen? ⟨gk, q, none⟩ = false ∧ ∃ u, w.cell? ⟨gk, q, none⟩ = some (.string u)) ∧ P1 (w.setCell ⟨gk, q, none⟩ (.string ks)) ∧ MonR (fun g => g = gk ∨ g = gl) P0 P1 Q0 Q1 w (w.setCell ⟨gk, q, none⟩ (.string ks))) := by
            intro w hw
            have hm : Moved (fun g => g = gk) w (w.setCell ⟨gk, q, none⟩ (.string ks)) := Moved.setCell (S := fun g => g = gk) (p := ⟨gk, q, none⟩) (Moved.refl _ w) (fun _ => rfl) _
            have hP : P1 (w.setCell ⟨gk, q, none⟩ (.string ks)) := by
              rw [hP0, hP1] at hw
              rw [hP1]
              rcases hw with h | h
              · have := h.stored q ks; rw [HS1.out] at this; exact this
              · have := h.stored q ks; rw [hs11] at this; exact this
            have hQ : ∀ vv, OwnN w B (.slice (some ⟨gl, 0, none⟩) keys.length keys.length) vv → OwnN (w.setCell ⟨gk, q, none⟩ (.string ks)) B (.slice (some ⟨gl, 0, none⟩) keys.length keys.length) vv := fun vv h => ⟨Moved.owns hm h.1 (fun g hg e => HNE.out (by simp [Value.ownBlock] at hg; rw [← e, ← hg])), h.2⟩
            refine ⟨?_, hP, hm.mono (fun _ _ h => .inl h), fun _ => hP, fun _ => .inr hP, ?_, ?_⟩
            · rw [hP0, hP1] at hw
              rcases hw with h | h
              · exact ⟨h.frozen q, _, h.at hg0⟩
              · exact ⟨h.frozen q, _, h.at hg2⟩
            · rw [hQ1]; exact hQ _
            · rw [hQ0, hQ1]; exact Or.imp (hQ _) (hQ _)
          have HOP17 : Hid (∀ w, Q0 w ∨ Q1 w → (∃ x, Cells6 w gl (q * 6) x) ∧ (∀ j, w.frozen? ⟨gl, j, none⟩ = false) ∧ Q1 ((((((w.setCell ⟨gl, q * 6, none⟩ (.int .i64 yk)).setCell ⟨gl, q * 6 + 1, none⟩ (.int .i64 yn)).setCell ⟨gl, q * 6 + 2, none⟩ (.int .u64 yu)).setCell ⟨gl, q * 6 + 3, none⟩ (.string ys)).setCell ⟨gl, q * 6 + 4, none⟩ (.slice ya4 yn4 yc4)).setCell ⟨gl, q * 6 + 5, none⟩ (.slice ya5 yn5 yc5)) ∧
              MonR (fun g => g = gk ∨ g = gl) P0 P1 Q0 Q1 w ((((((w.setCell ⟨gl, q * 6, none⟩ (.int .i64 yk)).setCell ⟨gl, q * 6 + 1, none⟩ (.int .i64 yn)).setCell ⟨gl, q * 6 + 2, none⟩ (.int .u64 yu)).setCell ⟨gl, q * 6 + 3, none⟩ (.string ys)).setCell ⟨gl, q * 6 + 4, none⟩ (.slice ya4 yn4 yc4)).setCell ⟨gl, q * 6 + 5, none⟩ (.slice ya5 yn5 yc5))) := by
            intro w hw
            have hm := moved_six w gl (q * 6) (.int .i64 yk) (.int .i64 yn) (.int .u64 yu) (.string ys) (.slice ya4 yn4 yc4) (.slice ya5 yn5 yc5)
            have hQ : Q1 ((((((w.setCell ⟨gl, q * 6, none⟩ (.int .i64 yk)).setCell ⟨gl, q * 6 + 1, none⟩ (.int .i64 yn)).setCell ⟨gl, q * 6 + 2, none⟩ (.int .u64 yu)).setCell ⟨gl, q * 6 + 3, none⟩ (.string ys)).setCell ⟨gl, q * 6 + 4, none⟩ (.slice ya4 yn4 yc4)).setCell ⟨gl, q * 6 + 5, none⟩ (.slice ya5 yn5 yc5)) := by
              rw [hQ0, hQ1] at hw
              rw [hQ1]
              rcases hw with h | h
              · have := h.stored (i := q) (by rw [hl1]; exact hlt) HX6.out rfl; rw [HS2'.out] at this; exact this
              · have := h.stored (i := q) (by rw [hl2]; exact hlt) HX6.out rfl; rw [hv11] at this; exact this
            have hP : ∀ ss, OwnS w B (.slice (some ⟨gk, 0, none⟩) keys.length keys.length) ss → OwnS ((((((w.setCell ⟨gl, q * 6, none⟩ (.int .i64 yk)).setCell ⟨gl, q * 6 + 1, none⟩ (.int .i64 yn)).setCell ⟨gl, q * 6 + 2, none⟩ (.int .u64 yu)).setCell ⟨gl, q * 6 + 3, none⟩ (.string ys)).setCell ⟨gl, q * 6 + 4, none⟩ (.slice ya4 yn4 yc4)).setCell ⟨gl, q * 6 + 5, none⟩ (.slice ya5 yn5 yc5)) B (.slice (some ⟨gk, 0, none⟩) keys.length keys.length) ss := fun ss h => Moved.owns hm h (fun g hg e => HNE.out (by simp [Value.ownBlock] at hg; rw [hg, e]))
            refine ⟨?_, ?_, hQ, hm.mono (fun _ _ h => .inr h), ?_, ?_, fun _ => hQ, fun _ => .inr hQ⟩
            · rw [hQ0, hQ1] at hw
              rcases hw with h | h
              · exact ⟨_, h.at hg1⟩
              · exact ⟨_, h.at hg3'⟩
            · rw [hQ0, hQ1] at hw
              rcases hw with h | h
              · exact h.frozen
              · exact h.frozen
            · rw [hP1]; exact hP _
            · rw [hP0, hP1]; exact Or.imp (hP _) (hP _)
          have hdrew : MonR (fun g => g = gk ∨ g = gl) P0 P1 Q0 Q1 wr wr.drew := by
            have hg := (Grew.refl wr).drew
            refine ⟨Moved.of_grew hg, ?_, ?_, ?_, ?_⟩
            · rw [hP1]; exact fun h => h.grew hg
            · rw [hP0, hP1]; exact Or.imp (fun h => h.grew hg) (fun h => h.grew hg)
            · rw [hQ1]; exact fun h => h.grew hg
            · rw [hQ0, hQ1]; exact Or.imp (fun h => h.grew hg) (fun h => h.grew hg)
          have HPP := Lib.hid (And.intro hP1 hQ1)
          clear hP0 hP1 hQ0 hQ1 hs11 hv11 hg0 hg1 hg2 hg3' hl1 hl2 HR pc'
          have n1 : ¬ (N = gk ∨ N = gl) := by
            have h1 := HGK.out.1
            have h2 := HGL.out.1
            have h3 := HG3.out.size
            have h4 := HS2.out
            have h5 := HN.out
            omega
          have n2 : ¬ (b4 = gk ∨ b4 = gl) := by have h1 := HGK.out.1; have h2 := HGL.out.1; omega
          have n3 : ¬ (b5 = gk ∨ b5 = gl) := by have h1 := HGK.out.1; have h2 := HGL.out.1; omega
          clear hb4 hb5
          refine wp_region_tables (MonR (fun g => g = gk ∨ g = gl) P0 P1 Q0 Q1) [[], [], [], [], [], [4], [], [5, 6], [7], [], [9], [], [10, 11], [12], [0, 1], [8, 14], [2, 3], [13, 16]] [[(34, 1), (35, 2), (36, 3), (37, 4), (38, 5), (39, 6), (40, 7), (41, 8), (42, 9), (43, 10), (44, 11), (45, 12), (46, 13), (48, 16)], [(33, 0), (35, 2), (36, 3), (37, 4), (38, 5), (39, 6), (40, 7), (41, 8), (42, 9), (43, 10), (44, 11), (45, 12), (46, 13), (48, 16)], [(33, 0), (34, 1), (36, 3), (37, 4), (38, 5), (39, 6), (40, 7), (41, 8), (42, 9), (43, 10), (44, 11), (45, 12), (46, 13), (47, 14)], [(33, 0), (34, 1), (35, 2), (37, 4), (38, 5), (39, 6), (40, 7), (41, 8), (42, 9), (43, 10), (44, 11), (45, 12), (46, 13), (47, 14)], [(33, 0), (34, 1), (35, 2), (36, 3), (39, 6), (40, 7), (41, 8), (42, 9), (43, 10), (44, 11), (45, 12), (46, 13), (47, 14), (48, 16)], [(33, 0), (34, 1), (35, 2), (36, 3), (37, 4), (39, 6), (41, 8), (42, 9), (43, 10), (44, 11), (45, 12), (46, 13), (47, 14), (48, 16)], [(33, 0), (34, 1), (35, 2), (36, 3), (37, 4), (38, 5), (41, 8), (42, 9), (43, 10), (44, 11), (45, 12), (46, 13), (47, 14), (48, 16)], [(33, 0), (34, 1), (35, 2), (36, 3), (37, 4), (38, 5), (39, 6), (42, 9), (43, 10), (44, 11), (45, 12), (46, 13), (47, 14), (48, 16)], [(33, 0), (34, 1), (35, 2), (36, 3), (37, 4), (38, 5), (39, 6), (40, 7), (42, 9), (43, 10), (44, 11), (45, 12), (46, 13), (47, 14), (48, 16)], [(33, 0), (34, 1), (35, 2), (36, 3), (37, 4), (38, 5), (39, 6), (40, 7), (41, 8), (44, 11), (45, 12), (46, 13), (47, 14), (48, 16)], [(33, 0), (34, 1), (35, 2), (36, 3), (37, 4), (38, 5), (39, 6), (40, 7), (41, 8), (42, 9), (44, 11), (46, 13), (47, 14), (48, 16)], [(33, 0), (34, 1), (35, 2), (36, 3), (37, 4), (38, 5), (39, 6), (40, 7), (41, 8), (42, 9), (43, 10), (46, 13), (47, 14), (48, 16)], [(33, 0), (34, 1), (35, 2), (36, 3), (37, 4), (38, 5), (39, 6), (40, 7), (41, 8), (42, 9), (43, 10), (44, 11), (47, 14), (48, 16)], [(33, 0), (34, 1), (35, 2), (36, 3), (37, 4), (38, 5), (39, 6), (40, 7), (41, 8), (42, 9), (43, 10), (44, 11), (45, 12), (47, 14), (48, 16)], [(33, 0), (34, 1), (35, 2), (36, 3), (37, 4), (38, 5), (39, 6), (40, 7), (41, 8), (42, 9), (43, 10), (44, 11), (45, 12), (46, 13), (48, 16)], [(33, 0), (34, 1), (35, 2), (36, 3), (37, 4), (38, 5), (39, 6), (40, 7), (41, 8), (42, 9), (43, 10), (44, 11), (45, 12), (46, 13), (47, 14), (48, 16)], [(33, 0), (34, 1), (35, 2), (36, 3), (37, 4), (38, 5), (39, 6), (40, 7), (41, 8), (42, 9), (43, 10), (44, 11), (45, 12), (46, 13), (47, 14)], [(33, 0), (34, 1), (35, 2), (36, 3), (37, 4), (38, 5), (39, 6), (40, 7), (41, 8), (42, 9), (43, 10), (44, 11), (45, 12), (46, 13), (47, 14), (48, 16)]] [(33, 0), (34, 1), (35, 2), (36, 3), (37, 4), (38, 5), (39, 6), (40, 7), (41, 8), (42, 9), (43, 10), (44, 11), (45, 12), (46, 13), (47, 14), (48, 16)]
            [Is (.slice (some ⟨gk, 0, none⟩) keys.length keys.length), Is (.int .i64 q), Is (.slice (some ⟨gl, 0, none⟩) keys.length keys.length), Is (.int .i64 q), Is (.pointer (some ⟨N, 4, none⟩)), Is (.slice (some ⟨b4, o4, none⟩) keys.length c4), Is (.int .i64 xi), Is (.pointer (some ⟨b4, o4 + xi, none⟩)), Is (.string ks), Is (.pointer (some ⟨N, 5, none⟩)), Is (.slice (some ⟨b5, o5, none⟩) l.length c5), Is (.int .i64 xi), Is (.pointer (some ⟨b5, o5 + xi * 6, none⟩)), Is (.agg #[.int .i64 yk, .int .i64 yn, .int .u64 yu, .string ys, .slice ya4 yn4 yc4, .slice ya5 yn5 yc5]), Is (.pointer (some ⟨gk, q, none⟩)), fun v w => P1 w, Is (.pointer (some ⟨gl, q * 6, none⟩)), fun v w => Q1 w]
            (by kernel_rfl) MonR.trans MonR.refl hdrew (by kernel_rfl) ⟨is_st, is_st, is_st, is_st, is_st, is_st, is_st, is_st, is_st, is_st, is_st, is_st, is_st, is_st, is_st, fun _ _ _ hg h => hg.p1 h, is_st, fun _ _ _ hg h => hg.q1 h, trivial⟩ ⟨?_, ?_, ?_, ?_, ?_, ?_, ?_, ?_, ?_, ?_, ?_, ?_, ?_, ?_, ?_, ?_, ?_, ?_, trivial⟩ rfl ?_
          · intro y wz hG hD K hK
            simp only [fillL, Act.put, List.setIfInBounds_toArray, List.set_cons_zero, List.set_cons_succ, List.getD_cons_zero, List.getD_cons_succ, Is] at hK ⊢
            refine ite_yes (by rfl) ?_
            go_simp
            exact hK _ _ _ rfl (MonR.refl _) rfl
          · intro y wz hG hD K hK
            simp only [fillL, Act.put, List.setIfInBounds_toArray, List.set_cons_zero, List.set_cons_succ, List.getD_cons_zero, List.getD_cons_succ, Is] at hK ⊢
            refine ite_yes (by rfl) ?_
            go_simp
            exact hK _ _ _ rfl (MonR.refl _) rfl
          · intro y wz hG hD K hK
            simp only [fillL, Act.put, List.setIfInBounds_toArray, List.set_cons_zero, List.set_cons_succ, List.getD_cons_zero, List.getD_cons_succ, Is] at hK ⊢
            refine ite_yes (by rfl) ?_
            go_simp
            exact hK _ _ _ rfl (MonR.refl _) rfl
          · intro y wz hG hD K hK
            simp only [fillL, Act.put, List.setIfInBounds_toArray, List.set_cons_zero, List.set_cons_succ, List.getD_cons_zero, List.getD_cons_succ, Is] at hK ⊢
            refine ite_yes (by rfl) ?_
            go_simp
            exact hK _ _ _ rfl (MonR.refl _) rfl
          · intro y wz hG hD K hK
            simp only [fillL, Act.put, List.setIfInBounds_toArray, List.set_cons_zero, List.set_cons_succ, List.getD_cons_zero, List.getD_cons_succ, Is] at hK ⊢
            refine ite_yes (by rfl) ?_
            go_simp
            exact hK _ _ _ rfl (MonR.refl _) rfl
          · intro y wz hG hD K hK
            have dd := hG.moved.cell d4 n1
            simp only [depsH, List.getD_cons_zero, List.getD_cons_succ, Is, and_true] at hD
            have h4 := hD
            clear hD
            simp only [fillL, Act.put, List.setIfInBounds_toArray, List.set_cons_zero, List.set_cons_succ, List.getD_cons_zero, List.getD_cons_succ, Is] at hK ⊢
            rw [h4] at hK ⊢
            clear h4
            refine ite_yes (by rfl) ?_
            go_simp
            exact hK _ _ _ rfl (MonR.refl _) rfl
          · intro y wz hG hD K hK
            simp only [fillL, Act.put, List.setIfInBounds_toArray, List.set_cons_zero, List.set_cons_succ, List.getD_cons_zero, List.getD_cons_succ, Is] at hK ⊢
            refine ite_yes (by rfl) ?_
            go_simp
            exact hK _ _ _ rfl (MonR.refl _) rfl
          · intro y wz hG hD K hK
            simp only [depsH, List.getD_cons_zero, List.getD_cons_succ, Is, and_true] at hD
            have h5 := hD.1
            have h6 := hD.2
            clear hD
            simp only [fillL, Act.put, List.setIfInBounds_toArray, List.set_cons_zero, List.set_cons_succ, List.getD_cons_zero, List.getD_cons_succ, Is] at hK ⊢
            rw [h5, h6] at hK ⊢
            clear h5 h6
            refine ite_yes (by rfl) ?_
            go_simp
            exact hK _ _ _ rfl (MonR.refl _) rfl
          · intro y wz hG hD K hK
            have dd := hG.moved.cell k1 n2
            simp only [depsH, List.getD_cons_zero, List.getD_cons_succ, Is, and_true] at hD
            have h7 := hD
            clear hD
            simp only [fillL, Act.put, List.setIfInBounds_toArray, List.set_cons_zero, List.set_cons_succ, List.getD_cons_zero, List.getD_cons_succ, Is] at hK ⊢
            rw [h7] at hK ⊢
            clear h7
            refine ite_yes (by rfl) ?_
            go_simp
            exact hK _ _ _ rfl (MonR.refl _) rfl
          · intro y wz hG hD K hK
            simp only [fillL, Act.put, List.setIfInBounds_toArray, List.set_cons_zero, List.set_cons_succ, List.getD_cons_zero, List.getD_cons_succ, Is] at hK ⊢
            refine ite_yes (by rfl) ?_
            go_simp
            exact hK _ _ _ rfl (MonR.refl _) rfl
          · intro y wz hG hD K hK
            have dd := hG.moved.cell d5 n1
            simp only [depsH, List.getD_cons_zero, List.getD_cons_succ, Is, and_true] at hD
            have h9 := hD
            clear hD
            simp only [fillL, Act.put, List.setIfInBounds_toArray, List.set_cons_zero, List.set_cons_succ, List.getD_cons_zero, List.getD_cons_succ, Is] at hK ⊢
            rw [h9] at hK ⊢
            clear h9
            refine ite_yes (by rfl) ?_
            go_simp
            exact hK _ _ _ rfl (MonR.refl _) rfl
          · intro y wz hG hD K hK
            simp only [fillL, Act.put, List.setIfInBounds_toArray, List.set_cons_zero, List.set_cons_succ, List.getD_cons_zero, List.getD_cons_succ, Is] at hK ⊢
            refine ite_yes (by rfl) ?_
            go_simp
            exact hK _ _ _ rfl (MonR.refl _) rfl
          · intro y wz hG hD K hK
            simp only [depsH, List.getD_cons_zero, List.getD_cons_succ, Is, and_true] at hD
            have h10 := hD.1
            have h11 := hD.2
            clear hD
            simp only [fillL, Act.put, List.setIfInBounds_toArray, List.set_cons_zero, List.set_cons_succ, List.getD_cons_zero, List.getD_cons_succ, Is] at hK ⊢
            rw [h10, h11] at hK ⊢
            clear h10 h11
            refine ite_yes (by rfl) ?_
            go_simp
            exact hK _ _ _ rfl (MonR.refl _) rfl
          · intro y wz hG hD K hK
            have dd0 := hG.moved.cell e0 n3
            have dd1 := hG.moved.cell e1 n3
            have dd2 := hG.moved.cell e2 n3
            have dd3 := hG.moved.cell e3 n3
            have dd4 := hG.moved.cell e4 n3
            have dd5 := hG.moved.cell e5 n3
            simp only [depsH, List.getD_cons_zero, List.getD_cons_succ, Is, and_true] at hD
            have h12 := hD
            clear hD
            simp only [fillL, Act.put, List.setIfInBounds_toArray, List.set_cons_zero, List.set_cons_succ, List.getD_cons_zero, List.getD_cons_succ, Is] at hK ⊢
            rw [h12] at hK ⊢
            clear h12
            refine ite_yes (by rfl) ?_
            go_simp
            exact hK _ _ _ rfl (MonR.refl _) rfl
          · intro y wz hG hD K hK
            simp only [depsH, List.getD_cons_zero, List.getD_cons_succ, Is, and_true] at hD
            have h0 := hD.1
            have h1 := hD.2
            clear hD
            simp only [fillL, Act.put, List.setIfInBounds_toArray, List.set_cons_zero, List.set_cons_succ, List.getD_cons_zero, List.getD_cons_succ, Is] at hK ⊢
            rw [h0, h1] at hK ⊢
            clear h0 h1
            refine ite_yes (by rfl) ?_
            go_simp
            exact hK _ _ _ rfl (MonR.refl _) rfl
          · intro y wz hG hD K hK
            simp only [depsH, List.getD_cons_zero, List.getD_cons_succ, Is, and_true] at hD
            have h8 := hD.1
            have h14 := hD.2
            clear hD
            simp only [fillL, Act.put, List.setIfInBounds_toArray, List.set_cons_zero, List.set_cons_succ, List.getD_cons_zero, List.getD_cons_succ, Is] at hK ⊢
            rw [h8, h14] at hK ⊢
            clear h8 h14
            refine ite_yes (by rfl) ?_
            obtain ⟨⟨ff, uu, cc⟩, hp, hr⟩ := HOP15.out wz (hG.p0 (.inl HPQ.out.1))
            go_simp
            exact hK _ undef _ rfl hr hp
          · intro y wz hG hD K hK
            simp only [depsH, List.getD_cons_zero, List.getD_cons_succ, Is, and_true] at hD
            have h2 := hD.1
            have h3 := hD.2
            clear hD
            simp only [fillL, Act.put, List.setIfInBounds_toArray, List.set_cons_zero, List.set_cons_succ, List.getD_cons_zero, List.getD_cons_succ, Is] at hK ⊢
            rw [h2, h3] at hK ⊢
            clear h2 h3
            refine ite_yes (by rfl) ?_
            go_simp
            exact hK _ _ _ rfl (MonR.refl _) rfl
          · intro y wz hG hD K hK
            simp only [depsH, List.getD_cons_zero, List.getD_cons_succ, Is, and_true] at hD
            have h13 := hD.1
            have h16 := hD.2
            clear hD
            simp only [fillL, Act.put, List.setIfInBounds_toArray, List.set_cons_zero, List.set_cons_succ, List.getD_cons_zero, List.getD_cons_succ, Is] at hK ⊢
            rw [h13, h16] at hK ⊢
            clear h13 h16
            refine ite_yes (by rfl) ?_
            obtain ⟨⟨xx, hcc⟩, hff, hp, hr⟩ := HOP17.out wz (hG.q0 (.inl HPQ.out.2.1))
            obtain ⟨z0, z1, z2, z3, z4, z5, rfl, cc0, cc1, cc2, cc3, cc4, cc5⟩ := hcc
            have ff0 := hff (q * 6)
            have ff1 := hff (q * 6 + 1)
            have ff2 := hff (q * 6 + 2)
            have ff3 := hff (q * 6 + 3)
            have ff4 := hff (q * 6 + 4)
            have ff5 := hff (q * 6 + 5)
            go_simp
            exact hK _ undef _ rfl hr hp
          · intro y wz hG hF
            simp only [factsH, Is, and_true, Nat.reduceAdd] at hF
            have h0 := hF.1
            have h1 := hF.2.1
            have h2 := hF.2.2.1
            have h3 := hF.2.2.2.1
            have h4 := hF.2.2.2.2.1
            have h5 := hF.2.2.2.2.2.1
            have h6 := hF.2.2.2.2.2.2.1
            have h7 := hF.2.2.2.2.2.2.2.1
            have h8 := hF.2.2.2.2.2.2.2.2.1
            have h9 := hF.2.2.2.2.2.2.2.2.2.1
            have h10 := hF.2.2.2.2.2.2.2.2.2.2.1
            have h11 := hF.2.2.2.2.2.2.2.2.2.2.2.1
            have h12 := hF.2.2.2.2.2.2.2.2.2.2.2.2.1
            have h13 := hF.2.2.2.2.2.2.2.2.2.2.2.2.2.1
            have h14 := hF.2.2.2.2.2.2.2.2.2.2.2.2.2.2.1
            have h15 := hF.2.2.2.2.2.2.2.2.2.2.2.2.2.2.2.1
            have h16 := hF.2.2.2.2.2.2.2.2.2.2.2.2.2.2.2.2.1
            have h17 := hF.2.2.2.2.2.2.2.2.2.2.2.2.2.2.2.2.2
            clear hF
            simp only [fillL, Act.put, List.setIfInBounds_toArray, List.set_cons_zero, List.set_cons_succ, List.getD_cons_zero, List.getD_cons_succ, Is]
            rw [h0, h1, h2, h3, h4, h5, h6, h7, h8, h9, h10, h11, h12, h13, h14, h16]
            clear h0 h1 h2 h3 h4 h5 h6 h7 h8 h9 h10 h11 h12 h13 h14 h16
            rw [HPP.out.1] at h15
            rw [HPP.out.2] at h17
            have HE : Hid (OwnS wz B (.slice (some ⟨gk, 0, none⟩) keys.length keys.length) ss1 ∧ OwnN wz B (.slice (some ⟨gl, 0, none⟩) keys.length keys.length) vv1 ∧ Moved (fun g => g = gk ∨ g = gl) wv wz) := ⟨h15, h17, HPQ.out.2.2.trans' hG.moved⟩
            rw [← HSS.out.2.1, ← HSS.out.2.2.2] at HE
            clear h15 h17 hG hdrew HPQ HOP15 HOP17 d4 d5 k1 e0 e1 e2 e3 e4 e5
            go_wp2_with fail
            go_roundw
            case rel => exact ⟨q + 1, by omega, by go_num, HE⟩
            case measure => simp [intOf]; omega
        · obtain rfl : q = keys.length := by omega
          have HR := HW
          have hpl := perm_len HP.out
          have h1 := HR.out.1
          have h2 := HR.out.2.1
          rw [halfS_all hpl] at h1 h2
          have f4 := row_frozen HBN.out 4
          have f5 := row_frozen HBN.out 5
          have HROWS := Lib.hid (And.intro h1 h2)
          have HGR := Lib.hid (HG.out.trans (HG3.out.trans HGW.out))
          have HFK : Hid (gk ≠ N ∧ gk ≠ N + 1 ∧ gl ≠ N ∧ gl ≠ N + 1 ∧ w.heap.size ≤ gk ∧ w.heap.size ≤ gl ∧ gk < wr.heap.size ∧ gl < wr.heap.size) := by
            have e1 := HGK.out.1
            have e2 := HGL.out.1
            have e3 := HG3.out.size
            have e4 := HS2.out
            have e5 := HN.out
            have e6 := HG.out.size
            have e7 := (World.ownsRow.lt h1 gk rfl).2
            have e8 := (World.ownsRow.lt h2.1 gl rfl).2
            show _ ∧ _
            omega
          have HB1 : Hid (wr.heap[N + 1]? = some (.cells #[.int .i64 0, .int .i64 0, .int .u64 0, .string ⟨#[]⟩, .slice none 0 0, .slice none 0 0] 27 (0, 0))) := by
            show _ = _
            rw [← HN.out]
            exact HGW.out.heap (HG3.out.heap HBX.out.2)
          have HM : Hid (MidS w B S S' 17 n u s (.mk 17 n u s keys l) m ((wr.setCell ⟨N, 4, none⟩ (.slice (some ⟨gk, 0, none⟩) keys.length keys.length)).setCell ⟨N, 5, none⟩ (.slice (some ⟨gl, 0, none⟩) keys.length keys.length))) := by
            have hmv : Moved (fun g => g = N) wr ((wr.setCell ⟨N, 4, none⟩ (.slice (some ⟨gk, 0, none⟩) keys.length keys.length)).setCell ⟨N, 5, none⟩ (.slice (some ⟨gl, 0, none⟩) keys.length keys.length)) := Moved.setCell (S := fun g => g = N) (p := ⟨N, 5, none⟩) (Moved.setCell (S := fun g => g = N) (p := ⟨N, 4, none⟩) (Moved.refl _ wr) (fun _ => rfl) _) (fun _ => rfl) _
            have hsz : wr.heap.size ≤ ((wr.setCell ⟨N, 4, none⟩ (.slice (some ⟨gk, 0, none⟩) keys.length keys.length)).setCell ⟨N, 5, none⟩ (.slice (some ⟨gl, 0, none⟩) keys.length keys.length)).heap.size := hmv.size
            have hbN : ((wr.setCell ⟨N, 4, none⟩ (.slice (some ⟨gk, 0, none⟩) keys.length keys.length)).setCell ⟨N, 5, none⟩ (.slice (some ⟨gl, 0, none⟩) keys.length keys.length)).heap[N]? = some (.cells #[.int .i64 17, .int .i64 n, .int .u64 u, .string s, .slice (some ⟨gk, 0, none⟩) keys.length keys.length, .slice (some ⟨gl, 0, none⟩) keys.length keys.length] 27 (0, 0)) := by
              have e1 := heap_setCell_same wr N 4 _ _ (.slice (some ⟨gk, 0, none⟩) keys.length keys.length) HBN.out
              have e2 := heap_setCell_same _ N 5 _ _ (.slice (some ⟨gl, 0, none⟩) keys.length keys.length) e1
              simpa using e2
            generalize ((wr.setCell ⟨N, 4, none⟩ (.slice (some ⟨gk, 0, none⟩) keys.length keys.length)).setCell ⟨N, 5, none⟩ (.slice (some ⟨gl, 0, none⟩) keys.length keys.length)) = wc at *
            have hNN := HN.out
            have hgr : Grew w wc := Moved.fresh HGR.out hmv (fun g e => by rw [e]; exact Nat.le_of_eq hNN)
            have hS := HSW.out
            have hS' := HD.out.2.2.2
            have hl2 := HKL2.out
            obtain ⟨f1, f2, f3, f4, f5, f6, f7, f8⟩ := HFK.out
            refine ⟨p.map fun x => keys.getD x.1 ⟨#[]⟩, p.map fun x => l.getD x.1 (.mk 0 0 0 ⟨#[]⟩ [] []), p.map fun x => vs.getD x.1 zeroNode, .slice (some ⟨gk, 0, none⟩) keys.length keys.length, .slice (some ⟨gl, 0, none⟩) keys.length keys.length, sortT_perm hl2 HP.out HPS.out _ _, ?_, ?_, ?_, ?_, ?_, ?_, ?_, ?_, ?_, ?_, ?_, hgr⟩
            · refine okL_all fun x hx => ?_
              obtain ⟨i, _, rfl⟩ := List.mem_map.1 hx
              have hi : i.1 < l.length := by have := i.2; omega
              rw [List.getD_eq_getElem?_getD, List.getElem?_eq_getElem hi]
              exact okL_mem HOK.out.2 (List.getElem_mem hi)
            · intro x hx
              obtain ⟨i, _, rfl⟩ := List.mem_map.1 hx
              have hi : i.1 < l.length := by have := i.2; omega
              rw [List.getD_eq_getElem?_getD, List.getElem?_eq_getElem hi]
              exact HSZ.out _ (List.getElem_mem hi)
            · rw [List.length_map, hpl]; exact hok2
            · intro x hx
              obtain ⟨i, _, rfl⟩ := List.mem_map.1 hx
              rw [List.getD_eq_getElem?_getD, List.getElem?_eq_getElem i.2]
              exact HB.out.2.2.2.2 _ (List.getElem_mem i.2)
            · rw [hNN]; exact hbN
            · rw [hNN]; exact hmv.heap HB1.out (by omega)
            · exact Moved.owns hmv HROWS.out.1 (fun g hg e => by simp [Value.ownBlock] at hg; omega)
            · exact ⟨Moved.owns hmv HROWS.out.2.1 (fun g hg e => by simp [Value.ownBlock] at hg; omega), HROWS.out.2.2⟩
            · exact KidsO.perm (HOWN.out.2.2.grew hgr) hl2.symm HP.out _ _
            · intro g hg
              simp [Value.ownBlock] at hg
              subst hg
              refine ⟨.inr ⟨f5, by omega⟩, fun h => ?_, fun e => ?_⟩
              · have := hS _ (hS' _ h); omega
              · simp [Value.ownBlock] at e; exact HNE.out e.symm
            · intro g hg
              simp [Value.ownBlock] at hg
              subst hg
              refine ⟨.inr ⟨f6, by omega⟩, fun h => ?_, by omega, by omega⟩
              have := hS _ (hS' _ h); omega
          clear h1 h2 HR HW hpl
          go_wp2_with fail
          go_meet
          case rel => exact HM
  case rest =>
    obtain ⟨keys3, l3, vs3, kv3, lv3, hst, hok, hsz, hl3, hlk, hbN, hbR, hkv, hlv, hkd, hk3, hl3b, hgw⟩ := hcut.out
    clear hcut
    obtain ⟨a4', c4', rfl, _, _, _⟩ := rows_form hkv
    obtain ⟨a5', c5', rfl, hll, hlc, _⟩ := rows_form hlv.1
    have hkl3 := hkd.length
    rw [hkl3] at hlv hbN hk3 hl3b
    have HST := Lib.hid hst
    have HOK3 := Lib.hid hok
    have HSZ3 := Lib.hid hsz
    have HLK := Lib.hid hlk
    have hNN := HN.out
    rw [hNN] at hbN hbR hl3b
    have HBN := Lib.hid hbN
    have HBR := Lib.hid hbR
    have HKV := Lib.hid hkv
    have HLV := Lib.hid hlv
    have HKD := Lib.hid hkd
    have HK3 := Lib.hid hk3
    have HL3 := Lib.hid hl3b
    have HGW := Lib.hid hgw
    have HKL3 := Lib.hid hkl3
    have d5 := row_cellT hbN 5 _ rfl
    clear hst hok hsz hlk hbN hbR hkv hlv hkd hk3 hl3b hgw hkl3 hll hlc hb1 hb2 hNN hok2 hok3
    go_wp2_with fail
    clear d5
    go_loopw [57] (fun i wr => ∃ q : Nat, q ≤ l3.length ∧ i = .int .i64 q ∧ Hid (LoopS wc wr B S' (.slice a5' l3.length c5') l3 q)) (fun i _ => l3.length - (intOf i).toNat)
    case atStart =>
      refine ⟨0, Nat.zero_le _, rfl, ?_⟩
      exact ⟨[], vs3, fun _ => False, S', rfl, HLV.out, by simp [sortL, KidsO], by simpa using HKD.out, fun _ h => h.elim, fun _ h => h.elim, fun _ h => h, Moved.refl _ _⟩
    case round =>
      obtain ⟨q, hq, rfl, HW⟩ := hrel
      have HWF : Hid (wr.heap[N]? = some (.cells #[.int .i64 k, .int .i64 n, .int .u64 u, .string s, .slice a4' keys3.length c4', .slice a5' l3.length c5'] 27 (0, 0)) ∧ wr.heap[N + 1]? = some (.cells #[.int .i64 0, .int .i64 0, .int .u64 0, .string ⟨#[]⟩, .slice none 0 0, .slice none 0 0] 27 (0, 0)) ∧ OwnS wr B (.slice a4' keys3.length c4') keys3) := by
        obtain ⟨_, _, _, _, _, _, _, _, _, _, _, hm⟩ := HW.out
        have hS := HSW.out
        have hS' := HD.out.2.2.2
        have hN := HN.out
        refine ⟨hm.heap HBN.out ?_, hm.heap HBR.out ?_, Moved.owns hm HKV.out ?_⟩
        · rintro (h | h)
          · have := hS _ (hS' _ h); omega
          · exact (HL3.out _ h).2.2.1 rfl
        · rintro (h | h)
          · have := hS _ (hS' _ h); omega
          · exact (HL3.out _ h).2.2.2 rfl
        · rintro g hg (h | h)
          · exact (HK3.out g hg).2.1 h
          · exact (HK3.out g hg).2.2 h
      by_cases hlt : q < l3.length
      · obtain ⟨vs1, vs2, S1, S2, hq1, hrow, hk1, hk2, hdis, hs1, hs2, hm⟩ := HW.out
        obtain ⟨x, hx⟩ : ∃ x, l3[q]? = some x := ⟨_, List.getElem?_eq_getElem hlt⟩
        obtain ⟨hx0, hx1⟩ := List.getElem?_eq_some_iff.1 hx
        have hdrop : l3.drop q = x :: l3.drop (q + 1) := by rw [List.drop_eq_getElem_cons hlt, hx1]
        rw [hdrop] at hk2
        simp only [KidsO] at hk2
        obtain ⟨xv, vr, Sx, Sr, rfl, hSx, hSr, hxr, hox, hkr⟩ := hk2
        have hxm : x ∈ l3 := List.mem_of_getElem? hx
        obtain ⟨gL, rfl⟩ : ∃ g, a5' = some ⟨g, 0, none⟩ := by
          rcases hrow.1.2 with ⟨e, hn⟩ | ⟨g, cap, cur, e, _⟩
          · simp at hn
          · injection e with e1 _ _; exact ⟨g, e1⟩
        have hVl : (vs1 ++ xv :: vr).length = l3.length := by
          obtain ⟨_, _, e, _⟩ := rows_form hrow.1
          injection e with _ e2 _
          exact e2.symm
        have hVq : (vs1 ++ xv :: vr)[q]? = some xv := by rw [List.getElem?_append_right (by omega), hq1, Nat.sub_self]; rfl
        have h6 := hox.node6
        have hc6 := hrow.at hVq
        have HROW := Lib.hid hrow
        have HQV := Lib.hid (And.intro hq1 (And.intro hVl hVq))
        have HOX := Lib.hid hox
        have HK12 := Lib.hid (And.intro hk1 hkr)
        have HSS := Lib.hid (And.intro hdis (And.intro hs1 (And.intro hs2 (And.intro hSx (And.intro hSr hxr)))))
        have HM := Lib.hid hm
        have HTK : Hid (sortL (l3.take (q + 1)) = sortL (l3.take q) ++ [sortT x]) := by
          show _ = _
          rw [List.take_add_one, hx, sortL_map, sortL_map, List.map_append]; rfl
        have HXZ := Lib.hid (And.intro (HSZ3.out x hxm) (okL_mem HOK3.out hxm))
        clear hq1 hVl hVq hrow hox hk1 hkr hdis hs1 hs2 hSx hSr hxr hm hx hx0 hx1 hdrop hxm HW
        obtain ⟨yk, yn, yu, ys, ya4, yn4, yc4, ya5, yn5, yc5, rfl⟩ := h6
        obtain ⟨e0, e1, e2, e3, e4, e5⟩ := hc6.get
        have d5 := row_cellT HWF.out.1 5 _ rfl
        have hlti : (q : Int) < l3.length := by omega
        clear hc6
        go_wp2_with fail
        have hbs := heap_alloc_new wr (.cells #[.int .i64 yk, .int .i64 yn, .int .u64 yu, .string ys, .slice ya4 yn4 yc4, .slice ya5 yn5 yc5] 27)
        have hgs := (Grew.refl wr).alloc (.cells #[.int .i64 yk, .int .i64 yn, .int .u64 yu, .string ys, .slice ya4 yn4 yc4, .slice ya5 yn5 yc5] 27)
        generalize (wr.alloc (.cells #[.int .i64 yk, .int .i64 yn, .int .u64 yu, .string ys, .slice ya4 yn4 yc4, .slice ya5 yn5 yc5] 27)) = ws at *
        replace d5 := hgs.cell d5
        obtain ⟨NB, hNB⟩ : ∃ NB, wr.heap.size = NB := ⟨_, rfl⟩
        rw [hNB] at hbs ⊢
        have b0 := row_cellT hbs 0 _ rfl
        have b1 := row_cellT hbs 1 _ rfl
        have b2 := row_cellT hbs 2 _ rfl
        have b3 := row_cellT hbs 3 _ rfl
        have b4 := row_cellT hbs 4 _ rfl
        have b5 := row_cellT hbs 5 _ rfl
        have HGS := Lib.hid (And.intro hgs (And.intro hNB hbs))
        have HROWS := Lib.hid (HROW.out.grew hgs)
        have HOXS := Lib.hid (HOX.out.grew hgs)
        obtain ⟨VV, hVV⟩ : ∃ VV, vs1 ++ .agg #[.int .i64 yk, .int .i64 yn, .int .u64 yu, .string ys, .slice ya4 yn4 yc4, .slice ya5 yn5 yc5] :: vr = VV := ⟨_, rfl⟩
        have HVV := Lib.hid hVV
        rw [hVV] at HROWS
        have HQ2 : Hid (q < VV.length ∧ VV[q]? = some (.agg #[.int .i64 yk, .int .i64 yn, .int .u64 yu, .string ys, .slice ya4 yn4 yc4, .slice ya5 yn5 yc5])) := by
          have := HQV.out
          rw [hVV] at this
          exact ⟨by omega, this.2.2⟩
        have HSB : Hid ((∀ g, Sx g → g < wr.heap.size) ∧ ¬ Sx gL ∧ ¬ Sx N ∧ ¬ Sx NB ∧ gL ≠ N ∧ gL ≠ NB ∧ gL < wr.heap.size) := by
          have hS := HSW.out
          have hS' := HD.out.2.2.2
          have hN := HN.out
          have hL := HL3.out gL rfl
          have hlt := (World.ownsRow.lt HROW.out.1 gL rfl).2
          have hsx : ∀ g, Sx g → g < w.heap.size := fun g h => hS _ (hS' _ (HSS.out.2.2.1 _ (HSS.out.2.2.2.1 _ h)))
          have hNw : N < wr.heap.size := (Array.getElem?_eq_some_iff.1 HWF.out.1).1
          refine ⟨fun g h => ?_, fun h => ?_, fun h => ?_, fun h => ?_, hL.2.2.1, by omega, hlt⟩
          · have := hsx g h; omega
          · exact hL.2.1 (HSS.out.2.2.1 _ (HSS.out.2.2.2.1 _ h))
          · have := hsx _ h; omega
          · have := hsx _ h; omega
        have HGWR : Hid (w.heap.size ≤ wr.heap.size) := Nat.le_trans HGW.out.size HM.out.size
        clear hVV hbs hgs hNB e0 e1 e2 e3 e4 e5
        have n1 : ¬ (Sx N ∨ N = gL) := by have h := HSB.out; rintro (e | e); exact h.2.2.1 e; exact h.2.2.2.2.1 e.symm
        have n2 : ¬ (Sx NB ∨ NB = gL) := by have h := HSB.out; rintro (e | e); exact h.2.2.2.1 e; exact h.2.2.2.2.2.1 e.symm
        refine wp_region_tablesT (Moved (fun g => Sx g ∨ g = gL)) 4 (fun w => w.heap.size = ws.heap.size ∧ OwnT w B x (.agg #[.int .i64 yk, .int .i64 yn, .int .u64 yu, .string ys, .slice ya4 yn4 yc4, .slice ya5 yn5 yc5]) Sx ∧ OwnN w B (.slice (some ⟨gL, 0, none⟩) l3.length c5') VV) (stepS ws.heap.size B Sx gL l3.length c5' q) [[], [0], [], [], [3], [1, 2], [4, 5]] [[(64, 2), (65, 3), (66, 4), (67, 5)], [(62, 0), (64, 2), (65, 3), (66, 4)], [(62, 0), (63, 1), (65, 3), (66, 4)], [(62, 0), (63, 1), (64, 2), (67, 5)], [(62, 0), (63, 1), (64, 2), (65, 3), (67, 5)], [(62, 0), (63, 1), (64, 2), (65, 3), (66, 4)], [(62, 0), (63, 1), (64, 2), (65, 3), (66, 4), (67, 5)]] [(62, 0), (63, 1), (64, 2), (65, 3), (66, 4), (67, 5)]
          [fun y v w => v = .pointer (some ⟨N, 5, none⟩), fun y v w => v = .slice (some ⟨gL, 0, none⟩) l3.length c5', fun y v w => v = .int .i64 q, fun y v w => v = .agg #[.int .i64 yk, .int .i64 yn, .int .u64 yu, .string ys, .slice ya4 yn4 yc4, .slice ya5 yn5 yc5], fun y v w => DoneS ws.heap.size B Sx gL l3.length c5' q VV x v w, fun y v w => v = .pointer (some ⟨gL, q * 6, none⟩), fun y v w => ws.heap.size < w.heap.size ∧ OwnN w B (.slice (some ⟨gL, 0, none⟩) l3.length c5') (VV.set q (y 4))]
          (by kernel_rfl) Moved.trans' (Moved.refl _) stepS_moved (fun _ _ => .inl rfl) (fun i hi w w' ht h => stepS_pre hi ht h) ⟨rfl, HOXS.out.grew (Grew.refl _).drew, HROWS.out.grew (Grew.refl _).drew⟩ (Moved.of_grew (Grew.refl _).drew) (by kernel_rfl)
          ⟨fun _ _ _ _ _ _ _ h => h, fun _ _ _ _ _ _ _ h => h, fun _ _ _ _ _ _ _ h => h, fun _ _ _ _ _ _ _ h => h, fun i hi y v w w' ht h => DoneS.step HQ2.out.1 ⟨HSB.out.2.1, Nat.lt_of_lt_of_le HSB.out.2.2.2.2.2.2 HGS.out.1.size⟩ hi ht h, fun _ _ _ _ _ _ _ h => h, fun i hi y v w w' ht h => stepS_row hi ht h, trivial⟩
          ⟨fun _ _ _ _ _ h => h, fun _ _ _ _ _ h => h, fun _ _ _ _ _ h => h, fun _ _ _ _ _ h => h, fun _ _ _ _ _ h => h, fun _ _ _ _ _ h => h, fun y y' v w e h => by have h4 := e 4 (by decide); show ws.heap.size < w.heap.size ∧ OwnN w B (.slice (some ⟨gL, 0, none⟩) l3.length c5') (VV.set q (y' 4)); rw [← h4]; exact h, trivial⟩
          ⟨?_, ?_, ?_, ?_, ?_, ?_, ?_, trivial⟩ rfl ?_
        · intro y w2 hG hI hD K hK
          clear hI
          simp only [fillL, Act.put, List.setIfInBounds_toArray, List.set_cons_zero, List.set_cons_succ, List.getD_cons_zero, List.getD_cons_succ] at hK ⊢
          refine ite_yes (by rfl) ?_
          go_simp
          exact hK _ _ _ rfl (.inl rfl) rfl
        · intro y w2 hG hI hD K hK
          simp only [depsT, List.getD_cons_zero, List.getD_cons_succ, and_true] at hD
          have h0 := hD
          clear hD
          clear hI
          simp only [fillL, Act.put, List.setIfInBounds_toArray, List.set_cons_zero, List.set_cons_succ, List.getD_cons_zero, List.getD_cons_succ] at hK ⊢
          rw [h0] at hK ⊢
          clear h0
          refine ite_yes (by rfl) ?_
          have dd := hG.cell d5 n1
          go_simp
          exact hK _ _ _ rfl (.inl rfl) rfl
        · intro y w2 hG hI hD K hK
          clear hI
          simp only [fillL, Act.put, List.setIfInBounds_toArray, List.set_cons_zero, List.set_cons_succ, List.getD_cons_zero, List.getD_cons_succ] at hK ⊢
          refine ite_yes (by rfl) ?_
          go_simp
          exact hK _ _ _ rfl (.inl rfl) rfl
        · intro y w2 hG hI hD K hK
          clear hI
          simp only [fillL, Act.put, List.setIfInBounds_toArray, List.set_cons_zero, List.set_cons_succ, List.getD_cons_zero, List.getD_cons_succ] at hK ⊢
          refine ite_yes (by rfl) ?_
          have dd0 := hG.cell b0 n2
          have dd1 := hG.cell b1 n2
          have dd2 := hG.cell b2 n2
          have dd3 := hG.cell b3 n2
          have dd4 := hG.cell b4 n2
          have dd5 := hG.cell b5 n2
          go_simp
          exact hK _ _ _ rfl (.inl rfl) rfl
        · intro y w2 hG hI hD K hK
          simp only [depsT, List.getD_cons_zero, List.getD_cons_succ, and_true] at hD
          have h3 := hD
          clear hD
          simp only [fillL, Act.put, List.setIfInBounds_toArray, List.set_cons_zero, List.set_cons_succ, List.getD_cons_zero, List.getD_cons_succ] at hK ⊢
          rw [h3] at hK ⊢
          clear h3
          refine ite_yes (by rfl) ?_
          have hI' := hI rfl
          go_simp
          refine (HIH.out x HXZ.out.1 HXZ.out.2 _ w2 B Sx hI'.2.1 (Nat.le_trans HBW.out (Nat.le_trans HGWR.out (Nat.le_trans HGS.out.1.size (Nat.le_of_eq hI'.1.symm)))) (fun g hg => Nat.lt_of_lt_of_le (HSB.out.1 g hg) (Nat.le_trans HGS.out.1.size (Nat.le_of_eq hI'.1.symm)))).mono ?_
          rintro r w3 ⟨yv, Sy, rfl, ho, hm, hgt, hf⟩
          have hrw : OwnN w3 B (.slice (some ⟨gL, 0, none⟩) l3.length c5') VV := ⟨Moved.owns hm hI'.2.2.1 (fun g hg e => by simp [Value.ownBlock] at hg; subst hg; exact HSB.out.2.1 e), hI'.2.2.2⟩
          rw [← set_same HQ2.out.2] at hrw
          exact hK _ _ _ rfl (.inr (.inl ⟨rfl, hI'.1, hm, hgt⟩)) ⟨by have := hI'.1; omega, ⟨Sy, ho, fun g hg => (hf g hg).imp id fun h => ⟨by have := hI'.1; have := h.1; omega, h.2⟩⟩, _, hrw⟩
        · intro y w2 hG hI hD K hK
          simp only [depsT, List.getD_cons_zero, List.getD_cons_succ, and_true] at hD
          have h1 := hD.1
          have h2 := hD.2
          clear hD
          clear hI
          simp only [fillL, Act.put, List.setIfInBounds_toArray, List.set_cons_zero, List.set_cons_succ, List.getD_cons_zero, List.getD_cons_succ] at hK ⊢
          rw [h1, h2] at hK ⊢
          clear h1 h2
          refine ite_yes (by rfl) ?_
          go_simp
          exact hK _ _ _ rfl (.inl rfl) rfl
        · intro y w2 hG hI hD K hK
          simp only [depsT, List.getD_cons_zero, List.getD_cons_succ, and_true] at hD
          have h4 := hD.1
          have h5 := hD.2
          clear hD
          clear hI
          simp only [fillL, Act.put, List.setIfInBounds_toArray, List.set_cons_zero, List.set_cons_succ, List.getD_cons_zero, List.getD_cons_succ] at hK ⊢
          rw [h5] at hK ⊢
          clear h5
          refine ite_yes (by rfl) ?_
          have hd4 := h4
          obtain ⟨hW, ⟨Sy, ho, hs⟩, z, hz⟩ := hd4
          obtain ⟨zk, zn, zu, zs, za4, zn4, zc4, za5, zn5, zc5, hy4⟩ := ho.node6
          rw [hy4] at hK ho ⊢
          have hzl : q < (VV.set q z).length := by rw [List.length_set]; exact HQ2.out.1
          have hzq : (VV.set q z)[q]? = some z := List.getElem?_set_self HQ2.out.1
          obtain ⟨z0, z1, z2, z3, z4, z5, e6, cc0, cc1, cc2, cc3, cc4, cc5⟩ := hz.at hzq
          have ff0 := hz.frozen (q * 6)
          have ff1 := hz.frozen (q * 6 + 1)
          have ff2 := hz.frozen (q * 6 + 2)
          have ff3 := hz.frozen (q * 6 + 3)
          have ff4 := hz.frozen (q * 6 + 4)
          have ff5 := hz.frozen (q * 6 + 5)
          have hstep : ∀ vs, q < vs.length → OwnN w2 B (.slice (some ⟨gL, 0, none⟩) l3.length c5') vs → OwnN _ B (.slice (some ⟨gL, 0, none⟩) l3.length c5') (vs.set q _) := fun vs hv h => OwnN.stored h hv (x := .agg #[.int .i64 zk, .int .i64 zn, .int .u64 zu, .string zs, .slice za4 zn4 zc4, .slice za5 zn5 zc5]) ⟨_, _, _, _, _, _, _, _, _, _, rfl⟩ rfl
          have hst2 := hstep _ hzl hz
          rw [List.set_set] at hst2
          have hmv := moved_six w2 gL (q * 6) (.int .i64 zk) (.int .i64 zn) (.int .u64 zu) (.string zs) (.slice za4 zn4 zc4) (.slice za5 zn5 zc5)
          go_simp
          refine hK _ undef _ rfl (.inr (.inr ⟨rfl, hW, hmv.size, hmv, _, ⟨_, _, _, _, _, _, _, _, _, _, rfl⟩, hstep⟩)) ⟨Nat.lt_of_lt_of_le hW hmv.size, ?_⟩
          exact hst2
        · intro y w2 hG hF
          simp only [factsT, and_true, Nat.reduceAdd] at hF
          have h0 := hF.1
          have h1 := hF.2.1
          have h2 := hF.2.2.1
          have h3 := hF.2.2.2.1
          have h4 := hF.2.2.2.2.1
          have h5 := hF.2.2.2.2.2.1
          have h6 := hF.2.2.2.2.2.2
          clear hF
          simp only [fillL, Act.put, List.setIfInBounds_toArray, List.set_cons_zero, List.set_cons_succ, List.getD_cons_zero, List.getD_cons_succ]
          rw [h0, h1, h2, h3, h5]
          clear h0 h1 h2 h3 h5
          obtain ⟨hW, ⟨Sy, ho, hs⟩, _⟩ := h4
          have hrow := h6.2
          clear h6
          obtain ⟨zk, zn, zu, zs, za4, zn4, zc4, za5, zn5, zc5, hy4⟩ := ho.node6
          rw [hy4] at ho hrow ⊢
          clear hy4
          have HNX : Hid (LoopS wc w2 B S' (.slice (some ⟨gL, 0, none⟩) l3.length c5') l3 (q + 1)) := by
            have hv := HVV.out
            obtain ⟨hq1, hVl, hVq⟩ := HQV.out
            obtain ⟨hdis, hs1, hs2, hSx, hSr, hxr⟩ := HSS.out
            have hgs := HGS.out.1
            have hmw := HM.out
            have hgL := HL3.out gL rfl
            have hm2 : Moved (fun g => Sx g ∨ g = gL) wr w2 := (Moved.of_grew hgs).trans' hG
            have hW' : w.heap.size ≤ wr.heap.size := HGWR.out
            have hwc : wc.heap.size ≤ wr.heap.size := hmw.size
            have hS' : ∀ g, S' g → g < wr.heap.size := fun g h => by have := HSW.out _ (HD.out.2.2.2 _ h); omega
            have hS1 : ∀ g, S1 g → g < wr.heap.size := fun g h => (hs1 g h).elim (hS' g) (fun h => h.2)
            have hL1 : ¬ S1 gL := fun h => (hs1 _ h).elim hgL.2.1 (fun h => by have := (World.ownsRow.lt HLV.out.1 gL rfl).2; have := h.1; omega)
            have hL2 : ¬ Sr gL := fun h => hgL.2.1 (hs2 _ (hSr _ h))
            refine ⟨vs1 ++ [.agg #[.int .i64 zk, .int .i64 zn, .int .u64 zu, .string zs, .slice za4 zn4 zc4, .slice za5 zn5 zc5]], vr, fun g => S1 g ∨ Sy g, Sr, by rw [List.length_append]; simp [hq1], ?_, ?_, ?_, ?_, ?_, fun g h => hs2 g (hSr g h), ?_⟩
            · rw [← hv, List.set_append_right _ _ (by omega), hq1, Nat.sub_self, List.set_cons_zero] at hrow
              simpa using hrow
            · rw [HTK.out]
              refine KidsO.app (HK12.out.1.kept hm2 (fun g h e => ?_)) (KidsO.one ho) (fun g h1 h2 => ?_)
              · rcases e with e | e
                · exact hdis g h (hSx g e)
                · subst e; exact hL1 h
              · rcases hs g h2 with e | e
                · exact hdis g h1 (hSx g e)
                · have := hS1 g h1; have := hgs.size; have := e.1; omega
            · refine HK12.out.2.kept hm2 (fun g h e => ?_)
              rcases e with e | e
              · exact hxr g e h
              · subst e; exact hL2 h
            · rintro g (h | h) h2
              · exact hdis g h (hSr g h2)
              · rcases hs g h with e | e
                · exact hxr g e h2
                · have := hS' g (hs2 g (hSr g h2)); have := hgs.size; have := e.1; omega
            · rintro g (h | h)
              · exact (hs1 g h).imp id (fun h => ⟨h.1, Nat.lt_of_lt_of_le h.2 hm2.size⟩)
              · rcases hs g h with e | e
                · exact .inl (hs2 g (hSx g e))
                · exact .inr ⟨by have := hgs.size; have := e.1; omega, e.2⟩
            · refine hmw.trans' (hm2.mono (fun g _ h => ?_))
              rcases h with e | e
              · exact .inl (hs2 g (hSx g e))
              · exact .inr (by rw [e]; rfl)
          clear hs ho hrow hG b0 b1 b2 b3 b4 b5 d5 n1 n2
          go_wp2_with fail
          go_roundw
          case rel => exact ⟨q + 1, by omega, by go_num, HNX⟩
          case measure => simp [intOf]; omega
      · obtain rfl : q = l3.length := by omega
        have hlN : N + 1 < wc.heap.size := (Array.getElem?_eq_some_iff.1 HBR.out).1
        have hfin := sorted_close (T := .mk k n u s keys l) HST.out ⟨HB.out.1, HB.out.2.1, HB.out.2.2.1, HB.out.2.2.2.1⟩ HLK.out HN.out HGW.out HKV.out (fun g hg => (World.ownsRow.lt HLV.out.1 g hg).2) HK3.out HL3.out HD.out.2.2.2 HSW.out hlN HWF.out.2.1 HWF.out.2.2 HW.out
        have HFIN := Lib.hid hfin
        clear hfin
        have hrow := HWF.out.1
        have hres := HWF.out.2.1
        have r0 := row_frozen hres 0
        have r1 := row_frozen hres 1
        have r2 := row_frozen hres 2
        have r3 := row_frozen hres 3
        have r4 := row_frozen hres 4
        have r5 := row_frozen hres 5
        have d0 := row_cellT hrow 0 _ rfl
        have d1 := row_cellT hrow 1 _ rfl
        have d2 := row_cellT hrow 2 _ rfl
        have d3 := row_cellT hrow 3 _ rfl
        have d4 := row_cellT hrow 4 _ rfl
        have d5 := row_cellT hrow 5 _ rfl
        have z0 := row_cellT hres 0 _ rfl
        have z1 := row_cellT hres 1 _ rfl
        have z2 := row_cellT hres 2 _ rfl
        have z3 := row_cellT hres 3 _ rfl
        have z4 := row_cellT hres 4 _ rfl
        have z5 := row_cellT hres 5 _ rfl
        clear hrow hres HW
        go_wp2_with fail
        refine bodyPost_ret (v := .agg #[.int .i64 k, .int .i64 n, .int .u64 u, .string s, .slice a4' keys3.length c4', .slice a5' l3.length c5']) (by simp [results, Try.results40, go_sem, z0, z1, z2, z3, z4, z5]) rfl ?_
        obtain ⟨S'', hh⟩ := HFIN.out
        exact ⟨_, S'', rfl, hh⟩
end Go.Proofs.Ytlhliolknaopjaa

/-
  Plain lemma, no program: a region that leaves its order open, one of whose operations writes to memory made here.
-/
namespace Go.Proofs.Ytlhliolknaopjaa
set_option linter.unusedSimpArgs false
set_option linter.unusedVariables false
open Go Go.RowKit
section
variable {P : Program} {ops : Array Oper}
/-- One operation's word: ahead of the write (D m) in the world as it grows; the write; beside it, whatever the world, with no world touched. -/
def opWordM (P : Program) (ops : Array Oper) (m a b : Nat) (Tm : Value → Value → World → World → Prop) (R : World → World → Prop) (D : Array (List Nat)) (Φ : Nat → Value → World → Prop) (a0 : Act) (w0 : World) (i : Nat) (o : Oper) : Prop :=
  ∀ (y : Nat → Value) (wg w : World), R w0 wg → ((D.getD m []).contains i = true ∨ i = m → w = wg) → (∀ j ∈ D.getD i [], Φ j (y j) wg) → ∀ K : Act → World → Prop,
    (∀ v w', (if i = m then Tm (y a) (y b) wg w' else if (D.getD m []).contains i then R wg w' else w' = w) → Φ i v (if i = m then wg else if (D.getD m []).contains i then w' else wg) → K ((fillL y (canonL ops D i) a0).put o.dst v) w') →
    if Region.wanted o (yielded ops (fillL y (canonL ops D i) a0).tmps) then o.wp P (fillL y (canonL ops D i) a0) w K (fun _ _ _ => False) else K ((fillL y (canonL ops D i) a0).put o.dst undef) w

structure InvM (ops : Array Oper) (m a b : Nat) (Tm : Value → Value → World → World → Prop) (R : World → World → Prop) (D : Array (List Nat)) (Φ : Nat → Value → World → Prop) (a0 : Act) (w0 wg : World) (listed : Array Bool) (act : Act) (w : World) (y : Nat → Value) : Prop where
  size : listed.size = ops.size
  act : act = fillL y (pairsOf ops) a0
  grown : R w0 wg
  early : listed.getD m false = false → w = wg
  late : listed.getD m false = true → Tm (y a) (y b) wg w
  facts : ∀ j, listed.getD j false = true → Φ j (y j) wg
  open_ : ∀ j d, listed.getD j true = false → (ops[j]?).bind (·.dst) = some d → a0.put (some d) (y j) = a0
  closed : ∀ j, listed.getD j false = true → ∀ k ∈ D.getD j [], listed.getD k false = true

theorem wpAny_of_factsM {m a b : Nat} {Tm : Value → Value → World → World → Prop} {R : World → World → Prop} {D : Array (List Nat)} {Φ : Nat → Value → World → Prop} {a0 : Act} {w0 : World} {Q : Exit → Act → World → Prop}
    (hRt : ∀ {a b c : World}, R a b → R b c → R a c) (hchk : factsOK ops D = true) (hst : ∀ j v w w', R w w' → Φ j v w → Φ j v w') (hrr : ∀ w, R w w) (ha : (D.getD m []).contains a = true) (hb : (D.getD m []).contains b = true) (hmm : (D.getD m []).contains m = false) (hms : m < ops.size)
    (hop : ∀ i o, ops[i]? = some o → opWordM P ops m a b Tm R D Φ a0 w0 i o)
    (hfin : ∀ y wg w, R w0 wg → Tm (y a) (y b) wg w → (∀ j, j < ops.size → Φ j (y j) wg) → Q .normal (fillL y (pairsOf ops) a0) w) :
    ∀ (fuel : Nat) (listed : Array Bool) (act : Act) (w : World) (y : Nat → Value) (wg : World), ((List.range ops.size).filter fun j => !listed.getD j true).length ≤ fuel →
      InvM ops m a b Tm R D Φ a0 w0 wg listed act w y → wpAny P .any ops Q fuel listed act w := by
  simp only [factsOK, Bool.and_eq_true, List.all_eq_true, List.mem_range] at hchk
  obtain ⟨hkeys, hrows⟩ := hchk
  -- nothing ready: all has been listed
  have hall : ∀ (listed : Array Bool), listed.size = ops.size → Region.ready .any ops listed = [] → ∀ j, j < ops.size → listed.getD j false = true := by
    intro listed hs hnil j
    induction j using Nat.strongRecOn with
    | ind j ih =>
      intro hj
      cases hl : listed.getD j false with
      | true => rfl
      | false =>
        exfalso
        have hmem : j ∈ Region.ready .any ops listed := by
          rw [mem_ready]
          refine ⟨by rw [listed_cases (by omega)]; exact hl, ops[j], Array.getElem?_eq_getElem hj, fun e he hb => ?_⟩
          have hrow := hrows j hj
          rw [Array.getElem?_eq_getElem hj] at hrow
          simp only [Bool.and_eq_true, List.all_eq_true, decide_eq_true_eq] at hrow
          have hlt := hrow.1 e.on (List.mem_map.2 ⟨e, List.mem_filter.2 ⟨by simpa using he, hb⟩, rfl⟩)
          exact ih e.on hlt (by omega)
        rw [hnil] at hmem
        cases hmem
  have hdone : ∀ (listed : Array Bool) (act : Act) (w : World) (y : Nat → Value) (wg : World), InvM ops m a b Tm R D Φ a0 w0 wg listed act w y → Region.ready .any ops listed = [] → Q .normal act w := by
    intro listed act w y wg hI hnil
    rw [hI.act]
    exact hfin y wg w hI.grown (hI.late (hall listed hI.size hnil m hms)) (fun j hj => hI.facts j (hall listed hI.size hnil j hj))
  intro fuel
  induction fuel with
  | zero =>
    intro listed act w y wg hlen hI
    have hnil : Region.ready .any ops listed = [] := by
      have h0 : ((List.range ops.size).filter fun j => !listed.getD j true) = [] := List.length_eq_zero_iff.1 (by omega)
      refine List.eq_nil_iff_forall_not_mem.2 fun j hj => ?_
      have hj' := mem_ready.1 hj
      have : j ∈ ((List.range ops.size).filter fun j => !listed.getD j true) := by
        obtain ⟨hl, o, ho, _⟩ := hj'
        exact List.mem_filter.2 ⟨List.mem_range.2 (Array.getElem?_eq_some_iff.1 ho).1, by simp [hl]⟩
      rw [h0] at this
      cases this
    exact ⟨hnil, hdone listed act w y wg hI hnil⟩
  | succ fuel ih =>
    intro listed act w y wg hlen hI
    refine ⟨hdone listed act w y wg hI, fun i hi => ?_⟩
    obtain ⟨hun, o, ho, hedges⟩ := mem_ready.1 hi
    have hilt : i < ops.size := (Array.getElem?_eq_some_iff.1 ho).1
    have hunf : listed.getD i false = false := by rw [← listed_cases (by rw [hI.size]; exact hilt)]; exact hun
    have hrow := hrows i hilt
    rw [ho] at hrow
    simp only [Bool.and_eq_true, List.all_eq_true, decide_eq_true_eq, List.any_eq_true, Bool.or_eq_true, beq_iff_eq, List.contains_iff_mem] at hrow
    -- what i waits for has been listed
    have hD : ∀ k ∈ D.getD i [], listed.getD k false = true := by
      intro k hk
      obtain ⟨e, he, hek⟩ := hrow.2 k hk
      obtain ⟨ed, hed, rfl⟩ := List.mem_map.1 he
      obtain ⟨hed1, hed2⟩ := List.mem_filter.1 hed
      have hl := hedges ed (by simpa using hed1) hed2
      rcases hek with rfl | hek
      · exact hl
      · exact hI.closed _ hl k hek
    have hcan : fillL y (canonL ops D i) a0 = act := by
      rw [hI.act]
      refine fillL_filter y _ _ a0 hkeys ?_
      rintro ⟨d, j⟩ hq hp
      simp only [Bool.not_eq_false', Bool.or_eq_true, beq_iff_eq] at hp
      have hdst := mem_pairsOf.1 hq
      refine hI.open_ j d ?_ hdst
      rcases hp with rfl | hw
      · exact hun
      · have hjlt : j < listed.size := by
          rw [hI.size]
          rcases Nat.lt_or_ge j ops.size with h' | h'
          · exact h'
          · rw [Array.getElem?_eq_none h'] at hdst; cases hdst
        rw [listed_cases hjlt]
        cases hl : listed.getD j false with
        | false => rfl
        | true =>
          have := hI.closed j hl i (by simpa [waits] using hw)
          rw [hunf] at this
          cases this
    have hmun : (D.getD m []).contains i = true ∨ i = m → listed.getD m false = false := by
      rintro (h | h)
      · cases hl : listed.getD m false with
        | false => rfl
        | true =>
          have := hI.closed m hl i (by simpa using h)
          rw [hunf] at this; cases this
      · rw [← h]; exact hunf
    have hw := hop i o ho y wg w hI.grown (fun e => hI.early (hmun e)) (fun j hj => hI.facts j (hD j hj)) (fun a' w' => ∃ v, a' = act.put o.dst v ∧ (if i = m then Tm (y a) (y b) wg w' else if (D.getD m []).contains i then R wg w' else w' = w) ∧ Φ i v (if i = m then wg else if (D.getD m []).contains i then w' else wg))
    rw [hcan] at hw
    have hlen' : ((List.range ops.size).filter fun j => !(listed.setIfInBounds i true).getD j true).length ≤ fuel := by
      have : ((List.range ops.size).filter fun j => !(listed.setIfInBounds i true).getD j true).length < ((List.range ops.size).filter fun j => !listed.getD j true).length := by
        refine filter_lt _ i (fun j hj => ?_) (List.mem_range.2 hilt) (by rw [hun]; rfl) ?_
        · by_cases hij : i = j
          · subst hij
            have h2 : i < listed.size := by rw [hI.size]; exact hilt
            simp [h2] at hj
          · rw [getD_set_ne true hij] at hj; exact hj
        · have h2 : i < listed.size := by rw [hI.size]; exact hilt
          simp [h2]
      omega
    have hnext : ∀ v w', (if i = m then Tm (y a) (y b) wg w' else if (D.getD m []).contains i then R wg w' else w' = w) → Φ i v (if i = m then wg else if (D.getD m []).contains i then w' else wg) → wpAny P .any ops Q fuel (listed.setIfInBounds i true) (act.put o.dst v) w' := by
      intro v w' hT hφ
      have h2 : i < listed.size := by rw [hI.size]; exact hilt
      obtain ⟨wg', hwg'⟩ : ∃ wg', (if i = m then wg else if (D.getD m []).contains i then w' else wg) = wg' := ⟨_, rfl⟩
      rw [hwg'] at hφ
      have hR : R wg wg' := by
        rw [← hwg']
        by_cases him : i = m
        · rw [if_pos him]; exact hrr _
        · rw [if_neg him] at hT ⊢
          split
          · rename_i hc; rw [if_pos hc] at hT; exact hT
          · exact hrr _
      have hai : (D.getD m []).contains i = false → a ≠ i ∧ b ≠ i := fun h => ⟨fun e => (by rw [e, h] at ha; cases ha), fun e => (by rw [e, h] at hb; cases hb)⟩
      refine ih _ _ _ (fun k => if k = i then v else y k) wg' hlen' ⟨by simp [hI.size], ?_, hRt hI.grown hR, fun hm => ?_, fun hm => ?_, ?_, ?_, ?_⟩
      · cases hd : o.dst with
        | none =>
          rw [hI.act]
          show fillL y (pairsOf ops) a0 = _
          refine fillL_congr _ _ _ _ fun p hp => ?_
          have := mem_pairsOf.1 (show (p.1, p.2) ∈ pairsOf ops from hp)
          have hne : p.2 ≠ i := fun he => by rw [he, ho] at this; simp [hd] at this
          simp [hne]
        | some d =>
          rw [hI.act, fillL_set y i v _ a0 d hkeys (mem_pairsOf.2 (by simp [ho, hd]))]
      · by_cases him : i = m
        · subst him; simp [h2] at hm
        · rw [getD_set_ne false him] at hm
          rw [if_neg him] at hT hwg'
          have hw0 := hI.early hm
          split at hT
          · rename_i hc; rw [if_pos hc] at hwg'; exact hwg'
          · rename_i hc; rw [if_neg hc] at hwg'; rw [hT, hw0, hwg']
      · by_cases him : i = m
        · rw [if_pos him] at hT hwg'
          have h3 := hai (by rw [him]; exact hmm)
          simp only [if_neg h3.1, if_neg h3.2]
          rw [← hwg']; exact hT
        · rw [getD_set_ne false him] at hm
          rw [if_neg him] at hT hwg'
          have hcf : (D.getD m []).contains i = false := by
            cases hc : (D.getD m []).contains i with
            | false => rfl
            | true => have := hmun (.inl hc); rw [hm] at this; cases this
          rw [if_neg (by rw [hcf]; decide)] at hT hwg'
          have h3 := hai hcf
          simp only [if_neg h3.1, if_neg h3.2]
          rw [← hwg', hT]; exact hI.late hm
      · intro j hj
        by_cases hji : j = i
        · subst hji
          rw [if_pos rfl]
          exact hφ
        · rw [if_neg hji]
          rw [getD_set_ne false (Ne.symm hji)] at hj
          exact hst j (y j) _ _ hR (hI.facts j hj)
      · intro j d hj hdst
        have hji : j ≠ i := fun he => by subst he; simp [h2] at hj
        simp only [hji, if_false]
        rw [getD_set_ne true (Ne.symm hji)] at hj
        exact hI.open_ j d hj hdst
      · intro j hj k hk
        by_cases hji : j = i
        · subst hji; exact getD_set_true (hD k hk)
        · rw [getD_set_ne false (Ne.symm hji)] at hj
          exact getD_set_true (hI.closed j hj k hk)
    unfold wpOp
    simp only [ho]
    have hw2 := hw (fun v w' hr hφ => ⟨v, rfl, hr, hφ⟩)
    split at hw2
    · rename_i hwa
      rw [if_pos hwa]
      refine .inl ?_
      have h3 : o.wp P act w (wpAny P .any ops Q fuel (listed.setIfInBounds i true)) (fun _ _ _ => False) :=
        Oper.wp_mono (fun a' w' ⟨v, he, hr, hφ⟩ => by subst he; exact hnext v w' hr hφ) hw2
      exact wp_exit h3
    · rename_i hwa
      rw [if_neg hwa]
      obtain ⟨v, he, hr, hφ⟩ := hw2
      rw [he]
      exact hnext v w hr hφ
where
  wp_exit {o : Oper} {a : Act} {w : World} {K : Act → World → Prop} {Q : Exit → Act → World → Prop} (h : o.wp P a w K (fun _ _ _ => False)) : o.wp P a w K Q := by
    unfold Oper.wp at *
    generalize (execOp a.eval o).run P w = r at *
    cases r with
    | ok n w' =>
      cases n <;> simp only [Oper.upon] at h ⊢
      case enter f args =>
        refine Calls.mono h fun e w'' he => ?_
        cases e with
        | returned v => exact he
        | panicked c => exact he.elim
        | outgrown => obtain ⟨_, _, hq⟩ := he; exact hq.elim
      all_goals exact h
    | halt x w' => cases x <;> simp only [Oper.upon] at h

/-- **A region that draws its order, one of its operations a write.** -/
theorem wp_region_factsM {id : Nat} {a0 : Act} {w0 : World} {Q : Exit → Act → World → Prop} (R : World → World → Prop) (m a b : Nat) (Tm : Value → Value → World → World → Prop) (D : Array (List Nat)) (Φ : Nat → Value → World → Prop) (hm : P.follows .mixedOrders = true)
    (hRt : ∀ {a b c : World}, R a b → R b c → R a c) (hrr : ∀ w, R w w) (hd : R w0 w0.drew) (hchk : factsOK ops D = true) (hst : ∀ j v w w', R w w' → Φ j v w → Φ j v w')
    (ha : (D.getD m []).contains a = true) (hb : (D.getD m []).contains b = true) (hmm : (D.getD m []).contains m = false) (hms : m < ops.size)
    (hop : allWords (opWordM P ops m a b Tm R D Φ a0 w0) 0 ops.toList)
    (hfin : ∀ y wg w, R w0 wg → Tm (y a) (y b) wg w → (∀ j, j < ops.size → Φ j (y j) wg) → Q .normal (fillL y (pairsOf ops) a0) w) : (Code.region id ops true).wp P Q a0 w0 := by
  refine wp_region_any hm ?_
  refine wpAny_of_factsM (m := m) (a := a) (b := b) (Tm := Tm) (R := R) (D := D) (Φ := Φ) (a0 := a0) (w0 := w0) hRt hchk hst hrr ha hb hmm hms (fun i o ho => ?_) hfin ops.size _ a0 _ (fun j => match (ops[j]?).bind (·.dst) with | some d => a0.tmps.getD d undef | none => undef) _ ?_ ⟨by simp, ?_, hd, fun _ => rfl, fun h => ?_, ?_, ?_, ?_⟩
  · have := allWords_get _ 0 i o hop (by simpa using ho)
    simpa using this
  · exact Nat.le_trans (List.length_filter_le _ _) (by simp)
  · symm
    have : ∀ (L : List (Nat × Nat)), (∀ p ∈ L, (ops[p.2]?).bind (·.dst) = some p.1) → fillL (fun j => match (ops[j]?).bind (·.dst) with | some d => a0.tmps.getD d undef | none => undef) L a0 = a0 := by
      intro L
      induction L with
      | nil => intro _; rfl
      | cons p L ih =>
        intro h
        obtain ⟨d, j⟩ := p
        have hd := h (d, j) (by simp)
        simp only at hd
        show fillL _ L (a0.put (some d) _) = a0
        simp only [hd]
        rw [put_self]
        exact ih (fun p hp => h p (by simp [hp]))
    exact this _ (fun p hp => mem_pairsOf.1 hp)
  · have h' : (Array.replicate ops.size false).getD m false = false := by
      simp [Array.getD]
    rw [h'] at h; cases h
  · intro j hj
    have h : (Array.replicate ops.size false).getD j false = false := by
      simp [Array.getD]
    rw [h] at hj; cases hj
  · intro j d _ hdst
    simp only [hdst]
    exact put_self a0 d
  · intro j hj
    have h : (Array.replicate ops.size false).getD j false = false := by
      simp [Array.getD]
    rw [h] at hj; cases hj


/-- The written-out words. -/
def wordM (P : Program) (ops : Array Oper) (m a b : Nat) (Dm : List Nat) (Tm : Value → Value → World → World → Prop) (R : World → World → Prop) (Φ : List (Value → World → Prop)) (a0 : Act) (w0 : World) (i : Nat) (o : Oper) (d : List Nat) (c : List (Nat × Nat)) : Prop :=
  if i = m then ∀ (y : Nat → Value) (w : World), R w0 w → depsH Φ y w d → ∀ K : Act → World → Prop,
    (∀ a' v w', a' = (fillL y c a0).put o.dst v → Tm (y a) (y b) w w' → Φ.getD i (fun _ _ => True) v w → K a' w') →
    if Region.wanted o (yielded ops (fillL y c a0).tmps) then o.wp P (fillL y c a0) w K (fun _ _ _ => False) else K ((fillL y c a0).put o.dst undef) w
  else if Dm.contains i then word P ops R Φ a0 w0 i o d c
  else ∀ (y : Nat → Value) (wg w : World), R w0 wg → depsH Φ y wg d → ∀ K : Act → World → Prop,
    (∀ a' v w', a' = (fillL y c a0).put o.dst v → w' = w → Φ.getD i (fun _ _ => True) v wg → K a' w') →
    if Region.wanted o (yielded ops (fillL y c a0).tmps) then o.wp P (fillL y c a0) w K (fun _ _ _ => False) else K ((fillL y c a0).put o.dst undef) w
theorem wordM_at {m a b : Nat} {Dm : List Nat} {Tm : Value → Value → World → World → Prop} {R : World → World → Prop} {Φ : List (Value → World → Prop)} {a0 : Act} {w0 : World} {i : Nat} {o : Oper} {d : List Nat} {c : List (Nat × Nat)} (hi : i = m)
    (h : ∀ (y : Nat → Value) (w : World), R w0 w → depsH Φ y w d → ∀ K : Act → World → Prop,
    (∀ a' v w', a' = (fillL y c a0).put o.dst v → Tm (y a) (y b) w w' → Φ.getD i (fun _ _ => True) v w → K a' w') →
    if Region.wanted o (yielded ops (fillL y c a0).tmps) then o.wp P (fillL y c a0) w K (fun _ _ _ => False) else K ((fillL y c a0).put o.dst undef) w) : wordM P ops m a b Dm Tm R Φ a0 w0 i o d c := by
  unfold wordM; rw [if_pos hi]; exact h
theorem wordM_early {m a b : Nat} {Dm : List Nat} {Tm : Value → Value → World → World → Prop} {R : World → World → Prop} {Φ : List (Value → World → Prop)} {a0 : Act} {w0 : World} {i : Nat} {o : Oper} {d : List Nat} {c : List (Nat × Nat)} (hi : ¬ i = m) (hc : Dm.contains i = true)
    (h : word P ops R Φ a0 w0 i o d c) : wordM P ops m a b Dm Tm R Φ a0 w0 i o d c := by
  unfold wordM; rw [if_neg hi, if_pos hc]; exact h
theorem wordM_beside {m a b : Nat} {Dm : List Nat} {Tm : Value → Value → World → World → Prop} {R : World → World → Prop} {Φ : List (Value → World → Prop)} {a0 : Act} {w0 : World} {i : Nat} {o : Oper} {d : List Nat} {c : List (Nat × Nat)} (hi : ¬ i = m) (hc : Dm.contains i = false)
    (h : ∀ (y : Nat → Value) (wg w : World), R w0 wg → depsH Φ y wg d → ∀ K : Act → World → Prop,
    (∀ a' v w', a' = (fillL y c a0).put o.dst v → w' = w → Φ.getD i (fun _ _ => True) v wg → K a' w') →
    if Region.wanted o (yielded ops (fillL y c a0).tmps) then o.wp P (fillL y c a0) w K (fun _ _ _ => False) else K ((fillL y c a0).put o.dst undef) w) : wordM P ops m a b Dm Tm R Φ a0 w0 i o d c := by
  unfold wordM; rw [if_neg hi, if_neg (by rw [hc]; decide)]; exact h
def allWM (P : Program) (ops : Array Oper) (m a b : Nat) (Dm : List Nat) (Tm : Value → Value → World → World → Prop) (R : World → World → Prop) (Φ : List (Value → World → Prop)) (a0 : Act) (w0 : World) : Nat → List Oper → List (List Nat) → List (List (Nat × Nat)) → Prop
  | _, [], _, _ => True
  | i, o :: r, d :: ds, c :: cs => wordM P ops m a b Dm Tm R Φ a0 w0 i o d c ∧ allWM P ops m a b Dm Tm R Φ a0 w0 (i + 1) r ds cs
  | _, _ :: _, _, _ => False
theorem allW_wordsM {m a b : Nat} {Tm : Value → Value → World → World → Prop} {R : World → World → Prop} {Φ : List (Value → World → Prop)} {a0 : Act} {w0 : World} (D0 : List (List Nat)) (C0 : List (List (Nat × Nat))) (hC : ∀ i, i < ops.size → C0.getD i [] = canonL ops D0.toArray i) :
    ∀ (l : List Oper) (i : Nat) (D : List (List Nat)) (C : List (List (Nat × Nat))), i + l.length = ops.size → (∀ k, D[k]? = D0[i + k]?) → (∀ k, C[k]? = C0[i + k]?) → allWM P ops m a b (D0.getD m []) Tm R Φ a0 w0 i l D C →
      allWords (opWordM P ops m a b Tm R D0.toArray (fun j => Φ.getD j (fun _ _ => True)) a0 w0) i l := by
  intro l
  induction l with
  | nil => intros; trivial
  | cons o r ih =>
    intro i D C hl hD hC' h
    match D, C, h with
    | d :: ds, c :: cs, h =>
      obtain ⟨h1, h2⟩ := h
      refine ⟨?_, ih (i + 1) ds cs (by simp at hl; omega) (fun k => ?_) (fun k => ?_) h2⟩
      · have hd : D0.toArray.getD i [] = d := by
          have := hD 0
          simp at this
          simp [Array.getD_eq_getD_getElem?, ← this]
        have hc : canonL ops D0.toArray i = c := by
          rw [← hC i (by simp at hl; omega)]
          have := hC' 0
          simp at this
          simp [List.getD_eq_getElem?_getD, ← this]
        have hDm : D0.toArray.getD m [] = D0.getD m [] := by simp [Array.getD_eq_getD_getElem?, List.getD_eq_getElem?_getD]
        intro y wg w hR hwg hj K hK
        rw [hd] at hj
        rw [hc] at hK ⊢
        rw [hDm] at hwg hK
        unfold wordM at h1
        by_cases him : i = m
        · rw [if_pos him] at h1
          simp only [if_pos him] at hK
          obtain rfl := hwg (.inr him)
          exact h1 y w hR (depsH_of _ hj) K (fun a' v w' he hr hφ => by subst he; exact hK v w' hr hφ)
        · rw [if_neg him] at h1
          simp only [if_neg him] at hK
          by_cases hc' : (D0.getD m []).contains i = true
          · rw [if_pos hc'] at h1
            simp only [if_pos hc'] at hK
            obtain rfl := hwg (.inl hc')
            exact h1 y w hR (depsH_of _ hj) K (fun a' v w' he hr hφ => by subst he; exact hK v w' hr hφ)
          · rw [if_neg hc'] at h1
            simp only [if_neg hc'] at hK
            exact h1 y wg w hR (depsH_of _ hj) K (fun a' v w' he hr hφ => by subst he; exact hK v w' hr hφ)
      · have := hD (k + 1)
        simp at this
        rw [this]; congr 1; omega
      · have := hC' (k + 1)
        simp at this
        rw [this]; congr 1; omega
/-- **A region that draws its order, one of its operations (m) a write, the tables written out.** -/
theorem wp_region_tablesM {id : Nat} {a0 : Act} {w0 : World} {Q : Exit → Act → World → Prop} (R : World → World → Prop) (m a b : Nat) (Tm : Value → Value → World → World → Prop) (D : List (List Nat)) (C : List (List (Nat × Nat))) (F : List (Nat × Nat)) (Φ : List (Value → World → Prop)) (hm : P.follows .mixedOrders = true)
    (hRt : ∀ {a b c : World}, R a b → R b c → R a c) (hrr : ∀ w, R w w) (hd : R w0 w0.drew) (hchk : tablesOK ops D C F = true) (hst : stL R Φ)
    (ha : (D.getD m []).contains a = true) (hb : (D.getD m []).contains b = true) (hmm : (D.getD m []).contains m = false) (hms : m < Φ.length)
    (hlen : Φ.length = ops.size)
    (hop : allWM P ops m a b (D.getD m []) Tm R Φ a0 w0 0 ops.toList D C)
    (hfin : ∀ y wg w, R w0 wg → Tm (y a) (y b) wg w → factsH y wg 0 Φ → Q .normal (fillL y F a0) w) : (Code.region id ops true).wp P Q a0 w0 := by
  simp only [tablesOK, Bool.and_eq_true, decide_eq_true_eq, List.all_eq_true, List.mem_range] at hchk
  obtain ⟨⟨h1, h2⟩, h3⟩ := hchk
  subst h2
  have hDm : D.toArray.getD m [] = D.getD m [] := by simp [Array.getD_eq_getD_getElem?, List.getD_eq_getElem?_getD]
  refine wp_region_factsM R m a b Tm D.toArray (fun j => Φ.getD j (fun _ _ => True)) hm hRt hrr hd h1 ?_ (by rw [hDm]; exact ha) (by rw [hDm]; exact hb) (by rw [hDm]; exact hmm) (by omega) (allW_wordsM D C h3 ops.toList 0 D C (by simp) (by simp) (by simp) hop) (fun y wg w hr hT hj => hfin y wg w hr hT (factsH_of Φ 0 (by simp) (fun j h => hj j (by rw [← hlen]; simpa using h))))
  intro j v w w' hr hφ
  rcases Nat.lt_or_ge j Φ.length with hj | hj
  · have e : Φ.getD j (fun _ _ => True) = Φ[j] := by simp [List.getD_eq_getElem?_getD, hj]
    rw [e] at hφ ⊢
    exact stL_mem Φ hst _ (List.getElem_mem hj) v w w' hr hφ
  · have e : Φ.getD j (fun _ _ => True) = fun _ _ => True := by simp [List.getD_eq_getElem?_getD, hj]
    rw [e]; trivial
end
end Go.Proofs.Ytlhliolknaopjaa
