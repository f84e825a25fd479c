/-
  Plain lemma, no program: a region that leaves its order open is carried out in some order; if each operation, whenever what it waits for has been done, yields a value with its own fact, and facts abide whatever the region does, then behind the region all facts hold. Conditions: the dependency table passes a closed check.
-/
import Derived.Orders
import Derived.Below
import Derived.KernelRfl
namespace Go.Proofs.Ytaoflhddcbmacaa
set_option linter.unusedSimpArgs false
set_option linter.unusedVariables false
open Go Go.RowKit

/-! ### growth of the world -/

/-- All that was there lies as it lay. -/
def Grew (w w' : World) : Prop := Below w.heap.size w w'
theorem Grew.refl (w : World) : Grew w w := Below.refl _ _
theorem Grew.trans {a b c : World} (h : Grew a b) (k : Grew b c) : Grew a c := Below.trans h (Below.mono k (Below.size h))
theorem Grew.below {a b : World} (h : Grew a b) : Below a.heap.size a b := h
theorem Grew.of_below {a b : World} (h : Below a.heap.size a b) : Grew a b := h
theorem Grew.size {a b : World} (h : Grew a b) : a.heap.size ≤ b.heap.size := Below.size h
theorem Grew.drew {a w : World} (h : Grew a w) : Grew a w.drew := Below.drew h
theorem Grew.alloc {a w : World} (h : Grew a w) (o : Obj) : Grew a (w.alloc o) := Below.alloc h (Below.size h) o
theorem Grew.setCell {a w : World} (h : Grew a w) {p : Addr} (hp : a.heap.size ≤ p.block) (u : Value) : Grew a (w.setCell p u) := Below.setCell h hp u
theorem Grew.heap {w w' : World} (h : Grew w w') {k : Nat} {o : Obj} (hk : w.heap[k]? = some o) : w'.heap[k]? = some o :=
  (Below.block h k (Array.getElem?_eq_some_iff.1 hk).1).trans hk
theorem lt_of_cell {w : World} {p : Addr} {v : Value} (hc : w.cell? p = some v) : p.block < w.heap.size := by
  rcases Nat.lt_or_ge p.block w.heap.size with h | h
  · exact h
  · simp [World.cell?, Array.getElem?_eq_none h] at hc
theorem Grew.cell {w w' : World} (h : Grew w w') {p : Addr} {v : Value} (hc : w.cell? p = some v) : w'.cell? p = some v :=
  (Below.cell h (lt_of_cell hc)).trans hc
theorem Grew.frozen {w w' : World} (h : Grew w w') {p : Addr} {b : Bool} (hp : p.block < w.heap.size) (hc : w.frozen? p = b) : w'.frozen? p = b :=
  (Below.frozen h hp).trans hc

/-- What the walk wants of a grown world: old cells, old marks, the size. -/
theorem Grew.rules {W w1 : World} (hb : Grew W w1) : (∀ b o, b < W.heap.size → w1.cell? ⟨b, o, none⟩ = W.cell? ⟨b, o, none⟩) ∧ (∀ b o, b < W.heap.size → w1.frozen? ⟨b, o, none⟩ = W.frozen? ⟨b, o, none⟩) ∧ W.heap.size ≤ w1.heap.size :=
  ⟨fun b o h => Below.cell (p := ⟨b, o, none⟩) hb h, fun b o h => Below.frozen (p := ⟨b, o, none⟩) hb h, hb.size⟩

/-! ### filling the slots of a frame -/

section
variable {P : Program} {ops : Array Oper}

def fillL (y : Nat → Value) : List (Nat × Nat) → Act → Act
  | [], a => a
  | (d, j) :: r, a => fillL y r (a.put (some d) (y j))

theorem put_put (a : Act) (d : Nat) (u v : Value) : (a.put (some d) u).put (some d) v = a.put (some d) v := by
  simp [Act.put]

theorem fillL_put (y : Nat → Value) (d : Nat) (u : Value) : ∀ (r : List (Nat × Nat)) (a : Act), (∀ p ∈ r, p.1 ≠ d) → fillL y r (a.put (some d) u) = (fillL y r a).put (some d) u
  | [], _, _ => rfl
  | (e, j) :: r, a, h => by
    have hne : e ≠ d := h (e, j) (by simp)
    have hc : (a.put (some d) u).put (some e) (y j) = (a.put (some e) (y j)).put (some d) u := Act.put_comm a u (y j) (fun x hx hy => by cases hx; cases hy; exact hne rfl)
    show fillL y r ((a.put (some d) u).put (some e) (y j)) = _
    rw [hc]
    exact fillL_put y d u r _ (fun p hp => h p (by simp [hp]))

theorem fillL_congr (y z : Nat → Value) : ∀ (r : List (Nat × Nat)) (a : Act), (∀ p ∈ r, y p.2 = z p.2) → fillL y r a = fillL z r a
  | [], _, _ => rfl
  | (e, j) :: r, a, h => by
    show fillL y r (a.put (some e) (y j)) = fillL z r (a.put (some e) (z j))
    rw [h (e, j) (by simp)]
    exact fillL_congr y z r _ (fun p hp => h p (by simp [hp]))

/-- no slot twice, no operation twice -/
def keysOK : List (Nat × Nat) → Bool
  | [] => true
  | p :: r => r.all (fun q => q.1 != p.1 && q.2 != p.2) && keysOK r

theorem fillL_set (y : Nat → Value) (i : Nat) (v : Value) : ∀ (L : List (Nat × Nat)) (a : Act) (d : Nat), keysOK L = true → (d, i) ∈ L →
    fillL (fun k => if k = i then v else y k) L a = (fillL y L a).put (some d) v
  | (e, j) :: r, a, d, hk, hm => by
    simp only [keysOK, Bool.and_eq_true, List.all_eq_true, bne_iff_ne] at hk
    obtain ⟨hne, hk⟩ := hk
    show fillL _ r (a.put (some e) (if j = i then v else y j)) = (fillL y r (a.put (some e) (y j))).put (some d) v
    rcases List.mem_cons.1 hm with h | h
    · obtain ⟨rfl, rfl⟩ := Prod.mk.injEq .. ▸ h
      rw [if_pos rfl, fillL_congr _ y r _ (fun p hp => if_neg (hne p hp).2), fillL_put y d v r a (fun p hp => (hne p hp).1), fillL_put y d (y i) r a (fun p hp => (hne p hp).1), put_put]
    · have hij : j ≠ i := fun he => (hne _ h).2 he.symm
      rw [if_neg hij]
      exact fillL_set y i v r _ d hk h

theorem fillL_filter (y : Nat → Value) (p : Nat × Nat → Bool) : ∀ (L : List (Nat × Nat)) (a : Act), keysOK L = true → (∀ q ∈ L, p q = false → a.put (some q.1) (y q.2) = a) →
    fillL y (L.filter p) a = fillL y L a
  | [], _, _, _ => rfl
  | (e, j) :: r, a, hk, h => by
    simp only [keysOK, Bool.and_eq_true, List.all_eq_true, bne_iff_ne] at hk
    obtain ⟨hne, hk⟩ := hk
    have hr : ∀ q ∈ r, p q = false → (a.put (some e) (y j)).put (some q.1) (y q.2) = a.put (some e) (y j) := fun q hq hp => by
      rw [← Act.put_comm a (y q.2) (y j) (fun x hx hy => by cases hx; cases hy; exact (hne q hq).1 rfl), h q (by simp [hq]) hp]
    cases hp : p (e, j) with
    | true =>
      rw [List.filter_cons_of_pos hp]
      exact fillL_filter y p r _ hk hr
    | false =>
      rw [List.filter_cons_of_neg (by simp [hp])]
      have h0 := h (e, j) (by simp) hp
      show fillL y (r.filter p) a = fillL y r (a.put (some e) (y j))
      simp only at h0
      rw [h0] at hr ⊢
      exact fillL_filter y p r _ hk hr

/-- every slot that the region writes, with its operation's number -/
def pairsOf (ops : Array Oper) : List (Nat × Nat) := (List.range ops.size).filterMap fun j => ((ops[j]?).bind (·.dst)).map fun d => (d, j)

theorem mem_pairsOf {d j : Nat} : (d, j) ∈ pairsOf ops ↔ (ops[j]?).bind (·.dst) = some d := by
  unfold pairsOf
  rw [List.mem_filterMap]
  constructor
  · rintro ⟨k, _, hk⟩
    cases hd : (ops[k]?).bind (·.dst) with
    | none => simp [hd] at hk
    | some e => simp [hd] at hk; obtain ⟨rfl, rfl⟩ := hk; exact hd
  · intro h
    refine ⟨j, ?_, by simp [h]⟩
    rw [List.mem_range]
    rcases Nat.lt_or_ge j ops.size with h' | h'
    · exact h'
    · rw [Array.getElem?_eq_none h'] at h; cases h

/-- does operation j wait (by the table) for operation i? -/
def waits (D : Array (List Nat)) (i j : Nat) : Bool := (D.getD j []).contains i

/-- The slots of what may have been done when operation i comes up: all but i's own and those of what waits for i. -/
def canonL (ops : Array Oper) (D : Array (List Nat)) (i : Nat) : List (Nat × Nat) := (pairsOf ops).filter fun q => !(q.2 == i || waits D i q.2)

/-- The table is sound: what stands in a row is waited for at one or more steps; edges lead back in the text's order. -/
def factsOK (ops : Array Oper) (D : Array (List Nat)) : Bool :=
  keysOK (pairsOf ops) &&
  (List.range ops.size).all fun i =>
    match ops[i]? with
    | none => true
    | some o =>
      let es := (o.after.toList.filter (Region.binds .any)).map (·.on)
      es.all (fun e => e < i) && (D.getD i []).all fun k => es.any fun e => e == k || (D.getD e []).contains k

/-- One operation's word: whenever it comes up, with what it waits for done, it goes on with its fact. -/
def opWord (P : Program) (ops : Array Oper) (R : World → World → Prop) (D : Array (List Nat)) (Φ : Nat → Value → World → Prop) (a0 : Act) (w0 : World) (i : Nat) (o : Oper) : Prop :=
  ∀ (y : Nat → Value) (w : World), R w0 w → (∀ j ∈ D.getD i [], Φ j (y j) w) → ∀ K : Act → World → Prop,
    (∀ v w', R w w' → Φ i v w' → K ((fillL y (canonL ops D i) a0).put o.dst v) w') →
    if Region.wanted o (yielded ops (fillL y (canonL ops D i) a0).tmps) then o.wp P (fillL y (canonL ops D i) a0) w K (fun _ _ _ => False) else K ((fillL y (canonL ops D i) a0).put o.dst undef) w

def allWords (p : Nat → Oper → Prop) : Nat → List Oper → Prop
  | _, [] => True
  | i, o :: r => p i o ∧ allWords p (i + 1) r

theorem allWords_get {p : Nat → Oper → Prop} : ∀ (l : List Oper) (i k : Nat) (o : Oper), allWords p i l → l[k]? = some o → p (i + k) o := by
  intro l
  induction l with
  | nil => intro i k o _ hk; cases hk
  | cons o' r ih =>
    intro i k o h hk
    cases k with
    | zero =>
      rw [List.getElem?_cons_zero, Option.some.injEq] at hk
      rw [← hk]; exact h.1
    | succ k =>
      rw [List.getElem?_cons_succ] at hk
      have h2 := ih (i + 1) k o h.2 hk
      have e : i + (k + 1) = i + 1 + k := by omega
      rw [e]; exact h2

theorem filter_lt {p q : Nat → Bool} : ∀ (l : List Nat) (i : Nat), (∀ j, q j = true → p j = true) → i ∈ l → p i = true → q i = false → (l.filter q).length < (l.filter p).length
  | x :: l, i, h, hm, hp, hq => by
    have hle : ∀ l : List Nat, (l.filter q).length ≤ (l.filter p).length := fun l => by
      induction l with
      | nil => simp
      | cons y l ih =>
        cases hqy : q y with
        | true => rw [List.filter_cons_of_pos hqy, List.filter_cons_of_pos (h y hqy)]; simpa using ih
        | false =>
          rw [List.filter_cons_of_neg (by simp [hqy])]
          cases hpy : p y with
          | true => rw [List.filter_cons_of_pos hpy]; simp; omega
          | false => rw [List.filter_cons_of_neg (by simp [hpy])]; exact ih
    rcases List.mem_cons.1 hm with he | he
    · subst he
      rw [List.filter_cons_of_pos hp, List.filter_cons_of_neg (by simp [hq])]
      have := hle l
      simp; omega
    · have ih := filter_lt l i h he hp hq
      cases hqx : q x with
      | true => rw [List.filter_cons_of_pos hqx, List.filter_cons_of_pos (h x hqx)]; simpa using ih
      | false =>
        rw [List.filter_cons_of_neg (by simp [hqx])]
        cases hpx : p x with
        | true => rw [List.filter_cons_of_pos hpx]; simp; omega
        | false => rw [List.filter_cons_of_neg (by simp [hpx])]; exact ih

structure InvF (ops : Array Oper) (R : World → World → Prop) (D : Array (List Nat)) (Φ : Nat → Value → World → Prop) (a0 : Act) (w0 : World) (listed : Array Bool) (a : Act) (w : World) (y : Nat → Value) : Prop where
  size : listed.size = ops.size
  act : a = fillL y (pairsOf ops) a0
  grown : R w0 w
  facts : ∀ j, listed.getD j false = true → Φ j (y j) w
  open_ : ∀ j d, listed.getD j true = false → (ops[j]?).bind (·.dst) = some d → a0.put (some d) (y j) = a0
  closed : ∀ j, listed.getD j false = true → ∀ k ∈ D.getD j [], listed.getD k false = true

theorem put_self (a : Act) (d : Nat) : a.put (some d) (a.tmps.getD d undef) = a := by
  cases a with
  | mk t df =>
    simp only [Act.put]
    congr 1
    apply Array.ext
    · simp
    · intro i h1 h2
      rw [Array.getElem_setIfInBounds h2]
      split
      · rename_i he; subst he; simp [Array.getD, h2]
      · rfl

theorem listed_cases {listed : Array Bool} {j : Nat} (hj : j < listed.size) : listed.getD j true = listed.getD j false := by
  simp [Array.getD, hj]

theorem wpAny_of_facts {R : World → World → Prop} {D : Array (List Nat)} {Φ : Nat → Value → World → Prop} {a0 : Act} {w0 : World} {Q : Exit → Act → World → Prop}
    (hRt : ∀ {a b c : World}, R a b → R b c → R a c) (hchk : factsOK ops D = true) (hst : ∀ j v w w', R w w' → Φ j v w → Φ j v w') (hrr : ∀ w, R w w)
    (hop : ∀ i o, ops[i]? = some o → opWord P ops R D Φ a0 w0 i o)
    (hfin : ∀ y w, R w0 w → (∀ j, j < ops.size → Φ j (y j) w) → Q .normal (fillL y (pairsOf ops) a0) w) :
    ∀ (fuel : Nat) (listed : Array Bool) (a : Act) (w : World) (y : Nat → Value), ((List.range ops.size).filter fun j => !listed.getD j true).length ≤ fuel →
      InvF ops R D Φ a0 w0 listed a w y → wpAny P .any ops Q fuel listed a w := by
  simp only [factsOK, Bool.and_eq_true, List.all_eq_true, List.mem_range] at hchk
  obtain ⟨hkeys, hrows⟩ := hchk
  -- nothing ready: all has been listed
  have hall : ∀ (listed : Array Bool), listed.size = ops.size → Region.ready .any ops listed = [] → ∀ j, j < ops.size → listed.getD j false = true := by
    intro listed hs hnil j
    induction j using Nat.strongRecOn with
    | ind j ih =>
      intro hj
      cases hl : listed.getD j false with
      | true => rfl
      | false =>
        exfalso
        have hmem : j ∈ Region.ready .any ops listed := by
          rw [mem_ready]
          refine ⟨by rw [listed_cases (by omega)]; exact hl, ops[j], Array.getElem?_eq_getElem hj, fun e he hb => ?_⟩
          have hrow := hrows j hj
          rw [Array.getElem?_eq_getElem hj] at hrow
          simp only [Bool.and_eq_true, List.all_eq_true, decide_eq_true_eq] at hrow
          have hlt := hrow.1 e.on (List.mem_map.2 ⟨e, List.mem_filter.2 ⟨by simpa using he, hb⟩, rfl⟩)
          exact ih e.on hlt (by omega)
        rw [hnil] at hmem
        cases hmem
  have hdone : ∀ (listed : Array Bool) (a : Act) (w : World) (y : Nat → Value), InvF ops R D Φ a0 w0 listed a w y → Region.ready .any ops listed = [] → Q .normal a w := by
    intro listed a w y hI hnil
    rw [hI.act]
    exact hfin y w hI.grown (fun j hj => hI.facts j (hall listed hI.size hnil j hj))
  intro fuel
  induction fuel with
  | zero =>
    intro listed a w y hlen hI
    have hnil : Region.ready .any ops listed = [] := by
      have h0 : ((List.range ops.size).filter fun j => !listed.getD j true) = [] := List.length_eq_zero_iff.1 (by omega)
      refine List.eq_nil_iff_forall_not_mem.2 fun j hj => ?_
      have hj' := mem_ready.1 hj
      have : j ∈ ((List.range ops.size).filter fun j => !listed.getD j true) := by
        obtain ⟨hl, o, ho, _⟩ := hj'
        exact List.mem_filter.2 ⟨List.mem_range.2 (Array.getElem?_eq_some_iff.1 ho).1, by simp [hl]⟩
      rw [h0] at this
      cases this
    exact ⟨hnil, hdone listed a w y hI hnil⟩
  | succ fuel ih =>
    intro listed a w y hlen hI
    refine ⟨hdone listed a w y hI, fun i hi => ?_⟩
    obtain ⟨hun, o, ho, hedges⟩ := mem_ready.1 hi
    have hilt : i < ops.size := (Array.getElem?_eq_some_iff.1 ho).1
    have hunf : listed.getD i false = false := by rw [← listed_cases (by rw [hI.size]; exact hilt)]; exact hun
    have hrow := hrows i hilt
    rw [ho] at hrow
    simp only [Bool.and_eq_true, List.all_eq_true, decide_eq_true_eq, List.any_eq_true, Bool.or_eq_true, beq_iff_eq, List.contains_iff_mem] at hrow
    -- what i waits for has been listed
    have hD : ∀ k ∈ D.getD i [], listed.getD k false = true := by
      intro k hk
      obtain ⟨e, he, hek⟩ := hrow.2 k hk
      obtain ⟨ed, hed, rfl⟩ := List.mem_map.1 he
      obtain ⟨hed1, hed2⟩ := List.mem_filter.1 hed
      have hl := hedges ed (by simpa using hed1) hed2
      rcases hek with rfl | hek
      · exact hl
      · exact hI.closed _ hl k hek
    have hcan : fillL y (canonL ops D i) a0 = a := by
      rw [hI.act]
      refine fillL_filter y _ _ a0 hkeys ?_
      rintro ⟨d, j⟩ hq hp
      simp only [Bool.not_eq_false', Bool.or_eq_true, beq_iff_eq] at hp
      have hdst := mem_pairsOf.1 hq
      refine hI.open_ j d ?_ hdst
      rcases hp with rfl | hw
      · exact hun
      · have hjlt : j < listed.size := by
          rw [hI.size]
          rcases Nat.lt_or_ge j ops.size with h' | h'
          · exact h'
          · rw [Array.getElem?_eq_none h'] at hdst; cases hdst
        rw [listed_cases hjlt]
        cases hl : listed.getD j false with
        | false => rfl
        | true =>
          have := hI.closed j hl i (by simpa [waits] using hw)
          rw [hunf] at this
          cases this
    have hw := hop i o ho y w hI.grown (fun j hj => hI.facts j (hD j hj)) (fun a' w' => ∃ v, a' = a.put o.dst v ∧ R w w' ∧ Φ i v w')
    rw [hcan] at hw
    have hlen' : ((List.range ops.size).filter fun j => !(listed.setIfInBounds i true).getD j true).length ≤ fuel := by
      have : ((List.range ops.size).filter fun j => !(listed.setIfInBounds i true).getD j true).length < ((List.range ops.size).filter fun j => !listed.getD j true).length := by
        refine filter_lt _ i (fun j hj => ?_) (List.mem_range.2 hilt) (by rw [hun]; rfl) ?_
        · by_cases hij : i = j
          · subst hij
            have h2 : i < listed.size := by rw [hI.size]; exact hilt
            simp [h2] at hj
          · rw [getD_set_ne true hij] at hj; exact hj
        · have h2 : i < listed.size := by rw [hI.size]; exact hilt
          simp [h2]
      omega
    have hnext : ∀ v w', R w w' → Φ i v w' → wpAny P .any ops Q fuel (listed.setIfInBounds i true) (a.put o.dst v) w' := by
      intro v w' hr hφ
      have h2 : i < listed.size := by rw [hI.size]; exact hilt
      refine ih _ _ _ (fun k => if k = i then v else y k) hlen' ⟨by simp [hI.size], ?_, hRt hI.grown hr, ?_, ?_, ?_⟩
      · cases hd : o.dst with
        | none =>
          rw [hI.act]
          show fillL y (pairsOf ops) a0 = _
          refine fillL_congr _ _ _ _ fun p hp => ?_
          have := mem_pairsOf.1 (show (p.1, p.2) ∈ pairsOf ops from hp)
          have hne : p.2 ≠ i := fun he => by rw [he, ho] at this; simp [hd] at this
          simp [hne]
        | some d =>
          rw [hI.act, fillL_set y i v _ a0 d hkeys (mem_pairsOf.2 (by simp [ho, hd]))]
      · intro j hj
        by_cases hji : j = i
        · subst hji; simpa using hφ
        · simp only [hji, if_false]
          rw [getD_set_ne false (Ne.symm hji)] at hj
          exact hst j _ _ _ hr (hI.facts j hj)
      · intro j d hj hdst
        have hji : j ≠ i := fun he => by subst he; simp [h2] at hj
        simp only [hji, if_false]
        rw [getD_set_ne true (Ne.symm hji)] at hj
        exact hI.open_ j d hj hdst
      · intro j hj k hk
        by_cases hji : j = i
        · subst hji; exact getD_set_true (hD k hk)
        · rw [getD_set_ne false (Ne.symm hji)] at hj
          exact getD_set_true (hI.closed j hj k hk)
    unfold wpOp
    simp only [ho]
    have hw2 := hw (fun v w' hr hφ => ⟨v, rfl, hr, hφ⟩)
    split at hw2
    · rename_i hwa
      rw [if_pos hwa]
      refine .inl ?_
      have h3 : o.wp P a w (wpAny P .any ops Q fuel (listed.setIfInBounds i true)) (fun _ _ _ => False) :=
        Oper.wp_mono (fun a' w' ⟨v, he, hr, hφ⟩ => by subst he; exact hnext v w' hr hφ) hw2
      exact wp_exit h3
    · rename_i hwa
      rw [if_neg hwa]
      obtain ⟨v, he, hr, hφ⟩ := hw2
      rw [he]
      exact hnext v w hr hφ
where
  wp_exit {o : Oper} {a : Act} {w : World} {K : Act → World → Prop} {Q : Exit → Act → World → Prop} (h : o.wp P a w K (fun _ _ _ => False)) : o.wp P a w K Q := by
    unfold Oper.wp at *
    generalize (execOp a.eval o).run P w = r at *
    cases r with
    | ok n w' =>
      cases n <;> simp only [Oper.upon] at h ⊢
      case enter f args =>
        refine Calls.mono h fun e w'' he => ?_
        cases e with
        | returned v => exact he
        | panicked c => exact he.elim
        | outgrown => obtain ⟨_, _, hq⟩ := he; exact hq.elim
      all_goals exact h
    | halt x w' => cases x <;> simp only [Oper.upon] at h

/-- **A region that draws its order, by facts.** -/
theorem wp_region_facts {id : Nat} {a0 : Act} {w0 : World} {Q : Exit → Act → World → Prop} (R : World → World → Prop) (D : Array (List Nat)) (Φ : Nat → Value → World → Prop) (hm : P.follows .mixedOrders = true)
    (hRt : ∀ {a b c : World}, R a b → R b c → R a c) (hrr : ∀ w, R w w) (hd : R w0 w0.drew) (hchk : factsOK ops D = true) (hst : ∀ j v w w', R w w' → Φ j v w → Φ j v w')
    (hop : allWords (opWord P ops R D Φ a0 w0) 0 ops.toList)
    (hfin : ∀ y w, R w0 w → (∀ j, j < ops.size → Φ j (y j) w) → Q .normal (fillL y (pairsOf ops) a0) w) : (Code.region id ops true).wp P Q a0 w0 := by
  refine wp_region_any hm ?_
  refine wpAny_of_facts (R := R) (D := D) (Φ := Φ) (a0 := a0) (w0 := w0) hRt hchk hst hrr (fun i o ho => ?_) hfin ops.size _ a0 _ (fun j => match (ops[j]?).bind (·.dst) with | some d => a0.tmps.getD d undef | none => undef) ?_ ⟨by simp, ?_, hd, ?_, ?_, ?_⟩
  · have := allWords_get _ 0 i o hop (by simpa using ho)
    simpa using this
  · exact Nat.le_trans (List.length_filter_le _ _) (by simp)
  · symm
    have : ∀ (L : List (Nat × Nat)), (∀ p ∈ L, (ops[p.2]?).bind (·.dst) = some p.1) → fillL (fun j => match (ops[j]?).bind (·.dst) with | some d => a0.tmps.getD d undef | none => undef) L a0 = a0 := by
      intro L
      induction L with
      | nil => intro _; rfl
      | cons p L ih =>
        intro h
        obtain ⟨d, j⟩ := p
        have hd := h (d, j) (by simp)
        simp only at hd
        show fillL _ L (a0.put (some d) _) = a0
        simp only [hd]
        rw [put_self]
        exact ih (fun p hp => h p (by simp [hp]))
    exact this _ (fun p hp => mem_pairsOf.1 hp)
  · intro j hj
    have h : (Array.replicate ops.size false).getD j false = false := by
      simp [Array.getD]
    rw [h] at hj; cases hj
  · intro j d _ hdst
    simp only [hdst]
    exact put_self a0 d
  · intro j hj
    have h : (Array.replicate ops.size false).getD j false = false := by
      simp [Array.getD]
    rw [h] at hj; cases hj


/-! ### the same with written-out tables -/
/-- Equality with a value, as a fact. -/
def Is (v : Value) (u : Value) (_ : World) : Prop := u = v

def depsH (Φ : List (Value → World → Prop)) (y : Nat → Value) (w : World) : List Nat → Prop
  | [] => True
  | j :: r => Φ.getD j (fun _ _ => True) (y j) w ∧ depsH Φ y w r
theorem depsH_of {Φ : List (Value → World → Prop)} {y : Nat → Value} {w : World} : ∀ (d : List Nat), (∀ j ∈ d, Φ.getD j (fun _ _ => True) (y j) w) → depsH Φ y w d
  | [], _ => trivial
  | j :: r, h => ⟨h j (by simp), depsH_of r (fun k hk => h k (by simp [hk]))⟩
def stL (R : World → World → Prop) : List (Value → World → Prop) → Prop
  | [] => True
  | φ :: r => (∀ v w w', R w w' → φ v w → φ v w') ∧ stL R r
theorem stL_mem {R : World → World → Prop} : ∀ (Φ : List (Value → World → Prop)), stL R Φ → ∀ φ ∈ Φ, ∀ v w w', R w w' → φ v w → φ v w'
  | φ :: r, h, ψ, hm => by
    rcases List.mem_cons.1 hm with e | e
    · subst e; exact h.1
    · exact stL_mem r h.2 ψ e
theorem is_st {R : World → World → Prop} {x : Value} : ∀ v w w', R w w' → Is x v w → Is x v w' := fun _ _ _ _ h => h
/-- All facts, one behind the other. -/
def factsH (y : Nat → Value) (w : World) : Nat → List (Value → World → Prop) → Prop
  | _, [] => True
  | i, φ :: r => φ (y i) w ∧ factsH y w (i + 1) r
theorem factsH_of {Φ0 : List (Value → World → Prop)} {y : Nat → Value} {w : World} : ∀ (Φ : List (Value → World → Prop)) (i : Nat), (∀ k, Φ[k]? = Φ0[i + k]?) → (∀ j, j < i + Φ.length → Φ0.getD j (fun _ _ => True) (y j) w) → factsH y w i Φ
  | [], _, _, _ => trivial
  | φ :: r, i, h, hj => by
    refine ⟨?_, factsH_of r (i + 1) (fun k => ?_) (fun j hj' => hj j (by simp; omega))⟩
    · have h0 := hj i (by simp)
      have := h 0
      simp at this
      simpa [List.getD_eq_getElem?_getD, ← this] using h0
    · have := h (k + 1)
      simp at this
      rw [this]; congr 1; omega

def word (P : Program) (ops : Array Oper) (R : World → World → Prop) (Φ : List (Value → World → Prop)) (a0 : Act) (w0 : World) (i : Nat) (o : Oper) (d : List Nat) (c : List (Nat × Nat)) : Prop :=
  ∀ (y : Nat → Value) (w : World), R w0 w → depsH Φ y w d → ∀ K : Act → World → Prop,
    (∀ a' v w', a' = (fillL y c a0).put o.dst v → R w w' → Φ.getD i (fun _ _ => True) v w' → K a' w') →
    if Region.wanted o (yielded ops (fillL y c a0).tmps) then o.wp P (fillL y c a0) w K (fun _ _ _ => False) else K ((fillL y c a0).put o.dst undef) w

def allW (P : Program) (ops : Array Oper) (R : World → World → Prop) (Φ : List (Value → World → Prop)) (a0 : Act) (w0 : World) : Nat → List Oper → List (List Nat) → List (List (Nat × Nat)) → Prop
  | _, [], _, _ => True
  | i, o :: r, d :: ds, c :: cs => word P ops R Φ a0 w0 i o d c ∧ allW P ops R Φ a0 w0 (i + 1) r ds cs
  | _, _ :: _, _, _ => False

def tablesOK (ops : Array Oper) (D : List (List Nat)) (C : List (List (Nat × Nat))) (F : List (Nat × Nat)) : Bool :=
  factsOK ops D.toArray && (decide (F = pairsOf ops)) && (List.range ops.size).all fun i => decide (C.getD i [] = canonL ops D.toArray i)

theorem allW_words {R : World → World → Prop} {Φ : List (Value → World → Prop)} {a0 : Act} {w0 : World} (D0 : List (List Nat)) (C0 : List (List (Nat × Nat))) (hC : ∀ i, i < ops.size → C0.getD i [] = canonL ops D0.toArray i) :
    ∀ (l : List Oper) (i : Nat) (D : List (List Nat)) (C : List (List (Nat × Nat))), i + l.length = ops.size → (∀ k, D[k]? = D0[i + k]?) → (∀ k, C[k]? = C0[i + k]?) → allW P ops R Φ a0 w0 i l D C →
      allWords (opWord P ops R D0.toArray (fun j => Φ.getD j (fun _ _ => True)) a0 w0) i l := by
  intro l
  induction l with
  | nil => intros; trivial
  | cons o r ih =>
    intro i D C hl hD hC' h
    match D, C, h with
    | d :: ds, c :: cs, h =>
      obtain ⟨h1, h2⟩ := h
      refine ⟨?_, ih (i + 1) ds cs (by simp at hl; omega) (fun k => ?_) (fun k => ?_) h2⟩
      · have hd : D0.toArray.getD i [] = d := by
          have := hD 0
          simp at this
          simp [Array.getD_eq_getD_getElem?, ← this]
        have hc : canonL ops D0.toArray i = c := by
          rw [← hC i (by simp at hl; omega)]
          have := hC' 0
          simp at this
          simp [List.getD_eq_getElem?_getD, ← this]
        intro y w hR hj K hK
        rw [hd] at hj
        rw [hc] at hK ⊢
        exact h1 y w hR (depsH_of _ hj) K (fun a' v w' he hr hφ => by subst he; exact hK v w' hr hφ)
      · have := hD (k + 1)
        simp at this
        rw [this]; congr 1; omega
      · have := hC' (k + 1)
        simp at this
        rw [this]; congr 1; omega

/-- **A region that draws its order, by facts, the tables written out.** -/
theorem wp_region_tables {id : Nat} {a0 : Act} {w0 : World} {Q : Exit → Act → World → Prop} (R : World → World → Prop) (D : List (List Nat)) (C : List (List (Nat × Nat))) (F : List (Nat × Nat)) (Φ : List (Value → World → Prop)) (hm : P.follows .mixedOrders = true)
    (hRt : ∀ {a b c : World}, R a b → R b c → R a c) (hrr : ∀ w, R w w) (hd : R w0 w0.drew) (hchk : tablesOK ops D C F = true) (hst : stL R Φ)
    (hop : allW P ops R Φ a0 w0 0 ops.toList D C)
    (hlen : Φ.length = ops.size)
    (hfin : ∀ y w, R w0 w → factsH y w 0 Φ → Q .normal (fillL y F a0) w) : (Code.region id ops true).wp P Q a0 w0 := by
  simp only [tablesOK, Bool.and_eq_true, decide_eq_true_eq, List.all_eq_true, List.mem_range] at hchk
  obtain ⟨⟨h1, h2⟩, h3⟩ := hchk
  subst h2
  refine wp_region_facts R D.toArray (fun j => Φ.getD j (fun _ _ => True)) hm hRt hrr hd h1 ?_ (allW_words D C h3 ops.toList 0 D C (by simp) (by simp) (by simp) hop) (fun y w hr hj => hfin y w hr (factsH_of Φ 0 (by simp) (fun j h => hj j (by rw [← hlen]; simpa using h))))
  intro j v w w' hr hφ
  rcases Nat.lt_or_ge j Φ.length with hj | hj
  · have e : Φ.getD j (fun _ _ => True) = Φ[j] := by simp [List.getD_eq_getElem?_getD, hj]
    rw [e] at hφ ⊢
    exact stL_mem Φ hst _ (List.getElem_mem hj) v w w' hr hφ
  · have e : Φ.getD j (fun _ _ => True) = fun _ _ => True := by simp [List.getD_eq_getElem?_getD, hj]
    rw [e]; trivial

end
end Go.Proofs.Ytaoflhddcbmacaa
