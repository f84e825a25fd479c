/-
  Texts of the proof, part 1 of 5.
-/
import Derived.Orders
import Derived.Below
import Derived.KernelRfl
import Derived.WalkKit
import Derived.WalkSpells
import Derived.WalkLawsBesides
import Derived.Test.YtajpbclcfjljnaaRows
import Derived.ProofKit
import Derived.OpenShut
import Derived.ShutString
import Derived.ChangeOld
import Derived.Lib.SmallJoins
import Derived.Lib.UnsafeStr
import Derived.Lib.Hide
import Derived.Handy
import Derived.Laws.OwnMore
import Derived.Deep.QuietTactic
import Derived.BigQuiet
import Derived.Laws.AppendOwnNone
import Derived.Lib.AppendZeros
import Derived.Lib.BufferMore
import Derived.Outline
import Derived.Laws.IdiomStrings
import Derived.Laws.Closers25b
import Derived.Shelf.Abstract

/-
  Plain lemma, no program: a region that leaves its order open is carried out in some order; if each operation, whenever what it waits for has been done, yields a value with its own fact, and facts abide whatever the region does, then behind the region all facts hold. Conditions: the dependency table passes a closed check.
-/
namespace Go.Proofs.Ytajpbclcfjljnaa
set_option linter.unusedSimpArgs false
set_option linter.unusedVariables false
open Go Go.RowKit

/-! ### growth of the world -/

/-- All that was there lies as it lay. -/
def Grew (w w' : World) : Prop := Below w.heap.size w w'
theorem Grew.refl (w : World) : Grew w w := Below.refl _ _
theorem Grew.trans {a b c : World} (h : Grew a b) (k : Grew b c) : Grew a c := Below.trans h (Below.mono k (Below.size h))
theorem Grew.below {a b : World} (h : Grew a b) : Below a.heap.size a b := h
theorem Grew.of_below {a b : World} (h : Below a.heap.size a b) : Grew a b := h
theorem Grew.size {a b : World} (h : Grew a b) : a.heap.size ≤ b.heap.size := Below.size h
theorem Grew.drew {a w : World} (h : Grew a w) : Grew a w.drew := Below.drew h
theorem Grew.alloc {a w : World} (h : Grew a w) (o : Obj) : Grew a (w.alloc o) := Below.alloc h (Below.size h) o
theorem Grew.setCell {a w : World} (h : Grew a w) {p : Addr} (hp : a.heap.size ≤ p.block) (u : Value) : Grew a (w.setCell p u) := Below.setCell h hp u
theorem Grew.heap {w w' : World} (h : Grew w w') {k : Nat} {o : Obj} (hk : w.heap[k]? = some o) : w'.heap[k]? = some o :=
  (Below.block h k (Array.getElem?_eq_some_iff.1 hk).1).trans hk
theorem lt_of_cell {w : World} {p : Addr} {v : Value} (hc : w.cell? p = some v) : p.block < w.heap.size := by
  rcases Nat.lt_or_ge p.block w.heap.size with h | h
  · exact h
  · simp [World.cell?, Array.getElem?_eq_none h] at hc
theorem Grew.cell {w w' : World} (h : Grew w w') {p : Addr} {v : Value} (hc : w.cell? p = some v) : w'.cell? p = some v :=
  (Below.cell h (lt_of_cell hc)).trans hc
theorem Grew.frozen {w w' : World} (h : Grew w w') {p : Addr} {b : Bool} (hp : p.block < w.heap.size) (hc : w.frozen? p = b) : w'.frozen? p = b :=
  (Below.frozen h hp).trans hc

/-- What the walk wants of a grown world: old cells, old marks, the size. -/
theorem Grew.rules {W w1 : World} (hb : Grew W w1) : (∀ b o, b < W.heap.size → w1.cell? ⟨b, o, none⟩ = W.cell? ⟨b, o, none⟩) ∧ (∀ b o, b < W.heap.size → w1.frozen? ⟨b, o, none⟩ = W.frozen? ⟨b, o, none⟩) ∧ W.heap.size ≤ w1.heap.size :=
  ⟨fun b o h => Below.cell (p := ⟨b, o, none⟩) hb h, fun b o h => Below.frozen (p := ⟨b, o, none⟩) hb h, hb.size⟩

/-! ### filling the slots of a frame -/

section
variable {P : Program} {ops : Array Oper}

def fillL (y : Nat → Value) : List (Nat × Nat) → Act → Act
  | [], a => a
  | (d, j) :: r, a => fillL y r (a.put (some d) (y j))

theorem put_put (a : Act) (d : Nat) (u v : Value) : (a.put (some d) u).put (some d) v = a.put (some d) v := by
  simp [Act.put]

theorem fillL_put (y : Nat → Value) (d : Nat) (u : Value) : ∀ (r : List (Nat × Nat)) (a : Act), (∀ p ∈ r, p.1 ≠ d) → fillL y r (a.put (some d) u) = (fillL y r a).put (some d) u
  | [], _, _ => rfl
  | (e, j) :: r, a, h => by
    have hne : e ≠ d := h (e, j) (by simp)
    have hc : (a.put (some d) u).put (some e) (y j) = (a.put (some e) (y j)).put (some d) u := Act.put_comm a u (y j) (fun x hx hy => by cases hx; cases hy; exact hne rfl)
    show fillL y r ((a.put (some d) u).put (some e) (y j)) = _
    rw [hc]
    exact fillL_put y d u r _ (fun p hp => h p (by simp [hp]))

theorem fillL_congr (y z : Nat → Value) : ∀ (r : List (Nat × Nat)) (a : Act), (∀ p ∈ r, y p.2 = z p.2) → fillL y r a = fillL z r a
  | [], _, _ => rfl
  | (e, j) :: r, a, h => by
    show fillL y r (a.put (some e) (y j)) = fillL z r (a.put (some e) (z j))
    rw [h (e, j) (by simp)]
    exact fillL_congr y z r _ (fun p hp => h p (by simp [hp]))

/-- no slot twice, no operation twice -/
def keysOK : List (Nat × Nat) → Bool
  | [] => true
  | p :: r => r.all (fun q => q.1 != p.1 && q.2 != p.2) && keysOK r

theorem fillL_set (y : Nat → Value) (i : Nat) (v : Value) : ∀ (L : List (Nat × Nat)) (a : Act) (d : Nat), keysOK L = true → (d, i) ∈ L →
    fillL (fun k => if k = i then v else y k) L a = (fillL y L a).put (some d) v
  | (e, j) :: r, a, d, hk, hm => by
    simp only [keysOK, Bool.and_eq_true, List.all_eq_true, bne_iff_ne] at hk
    obtain ⟨hne, hk⟩ := hk
    show fillL _ r (a.put (some e) (if j = i then v else y j)) = (fillL y r (a.put (some e) (y j))).put (some d) v
    rcases List.mem_cons.1 hm with h | h
    · obtain ⟨rfl, rfl⟩ := Prod.mk.injEq .. ▸ h
      rw [if_pos rfl, fillL_congr _ y r _ (fun p hp => if_neg (hne p hp).2), fillL_put y d v r a (fun p hp => (hne p hp).1), fillL_put y d (y i) r a (fun p hp => (hne p hp).1), put_put]
    · have hij : j ≠ i := fun he => (hne _ h).2 he.symm
      rw [if_neg hij]
      exact fillL_set y i v r _ d hk h

theorem fillL_filter (y : Nat → Value) (p : Nat × Nat → Bool) : ∀ (L : List (Nat × Nat)) (a : Act), keysOK L = true → (∀ q ∈ L, p q = false → a.put (some q.1) (y q.2) = a) →
    fillL y (L.filter p) a = fillL y L a
  | [], _, _, _ => rfl
  | (e, j) :: r, a, hk, h => by
    simp only [keysOK, Bool.and_eq_true, List.all_eq_true, bne_iff_ne] at hk
    obtain ⟨hne, hk⟩ := hk
    have hr : ∀ q ∈ r, p q = false → (a.put (some e) (y j)).put (some q.1) (y q.2) = a.put (some e) (y j) := fun q hq hp => by
      rw [← Act.put_comm a (y q.2) (y j) (fun x hx hy => by cases hx; cases hy; exact (hne q hq).1 rfl), h q (by simp [hq]) hp]
    cases hp : p (e, j) with
    | true =>
      rw [List.filter_cons_of_pos hp]
      exact fillL_filter y p r _ hk hr
    | false =>
      rw [List.filter_cons_of_neg (by simp [hp])]
      have h0 := h (e, j) (by simp) hp
      show fillL y (r.filter p) a = fillL y r (a.put (some e) (y j))
      simp only at h0
      rw [h0] at hr ⊢
      exact fillL_filter y p r _ hk hr

/-- every slot that the region writes, with its operation's number -/
def pairsOf (ops : Array Oper) : List (Nat × Nat) := (List.range ops.size).filterMap fun j => ((ops[j]?).bind (·.dst)).map fun d => (d, j)

theorem mem_pairsOf {d j : Nat} : (d, j) ∈ pairsOf ops ↔ (ops[j]?).bind (·.dst) = some d := by
  unfold pairsOf
  rw [List.mem_filterMap]
  constructor
  · rintro ⟨k, _, hk⟩
    cases hd : (ops[k]?).bind (·.dst) with
    | none => simp [hd] at hk
    | some e => simp [hd] at hk; obtain ⟨rfl, rfl⟩ := hk; exact hd
  · intro h
    refine ⟨j, ?_, by simp [h]⟩
    rw [List.mem_range]
    rcases Nat.lt_or_ge j ops.size with h' | h'
    · exact h'
    · rw [Array.getElem?_eq_none h'] at h; cases h

/-- does operation j wait (by the table) for operation i? -/
def waits (D : Array (List Nat)) (i j : Nat) : Bool := (D.getD j []).contains i

/-- The slots of what may have been done when operation i comes up: all but i's own and those of what waits for i. -/
def canonL (ops : Array Oper) (D : Array (List Nat)) (i : Nat) : List (Nat × Nat) := (pairsOf ops).filter fun q => !(q.2 == i || waits D i q.2)

/-- The table is sound: what stands in a row is waited for at one or more steps; edges lead back in the text's order. -/
def factsOK (ops : Array Oper) (D : Array (List Nat)) : Bool :=
  keysOK (pairsOf ops) &&
  (List.range ops.size).all fun i =>
    match ops[i]? with
    | none => true
    | some o =>
      let es := (o.after.toList.filter (Region.binds .any)).map (·.on)
      es.all (fun e => e < i) && (D.getD i []).all fun k => es.any fun e => e == k || (D.getD e []).contains k

/-- One operation's word: whenever it comes up, with what it waits for done, it goes on with its fact. -/
def opWord (P : Program) (ops : Array Oper) (R : World → World → Prop) (D : Array (List Nat)) (Φ : Nat → Value → World → Prop) (a0 : Act) (w0 : World) (i : Nat) (o : Oper) : Prop :=
  ∀ (y : Nat → Value) (w : World), R w0 w → (∀ j ∈ D.getD i [], Φ j (y j) w) → ∀ K : Act → World → Prop,
    (∀ v w', R w w' → Φ i v w' → K ((fillL y (canonL ops D i) a0).put o.dst v) w') →
    if Region.wanted o (yielded ops (fillL y (canonL ops D i) a0).tmps) then o.wp P (fillL y (canonL ops D i) a0) w K (fun _ _ _ => False) else K ((fillL y (canonL ops D i) a0).put o.dst undef) w

def allWords (p : Nat → Oper → Prop) : Nat → List Oper → Prop
  | _, [] => True
  | i, o :: r => p i o ∧ allWords p (i + 1) r

theorem allWords_get {p : Nat → Oper → Prop} : ∀ (l : List Oper) (i k : Nat) (o : Oper), allWords p i l → l[k]? = some o → p (i + k) o := by
  intro l
  induction l with
  | nil => intro i k o _ hk; cases hk
  | cons o' r ih =>
    intro i k o h hk
    cases k with
    | zero =>
      rw [List.getElem?_cons_zero, Option.some.injEq] at hk
      rw [← hk]; exact h.1
    | succ k =>
      rw [List.getElem?_cons_succ] at hk
      have h2 := ih (i + 1) k o h.2 hk
      have e : i + (k + 1) = i + 1 + k := by omega
      rw [e]; exact h2

theorem filter_lt {p q : Nat → Bool} : ∀ (l : List Nat) (i : Nat), (∀ j, q j = true → p j = true) → i ∈ l → p i = true → q i = false → (l.filter q).length < (l.filter p).length
  | x :: l, i, h, hm, hp, hq => by
    have hle : ∀ l : List Nat, (l.filter q).length ≤ (l.filter p).length := fun l => by
      induction l with
      | nil => simp
      | cons y l ih =>
        cases hqy : q y with
        | true => rw [List.filter_cons_of_pos hqy, List.filter_cons_of_pos (h y hqy)]; simpa using ih
        | false =>
          rw [List.filter_cons_of_neg (by simp [hqy])]
          cases hpy : p y with
          | true => rw [List.filter_cons_of_pos hpy]; simp; omega
          | false => rw [List.filter_cons_of_neg (by simp [hpy])]; exact ih
    rcases List.mem_cons.1 hm with he | he
    · subst he
      rw [List.filter_cons_of_pos hp, List.filter_cons_of_neg (by simp [hq])]
      have := hle l
      simp; omega
    · have ih := filter_lt l i h he hp hq
      cases hqx : q x with
      | true => rw [List.filter_cons_of_pos hqx, List.filter_cons_of_pos (h x hqx)]; simpa using ih
      | false =>
        rw [List.filter_cons_of_neg (by simp [hqx])]
        cases hpx : p x with
        | true => rw [List.filter_cons_of_pos hpx]; simp; omega
        | false => rw [List.filter_cons_of_neg (by simp [hpx])]; exact ih

structure InvF (ops : Array Oper) (R : World → World → Prop) (D : Array (List Nat)) (Φ : Nat → Value → World → Prop) (a0 : Act) (w0 : World) (listed : Array Bool) (a : Act) (w : World) (y : Nat → Value) : Prop where
  size : listed.size = ops.size
  act : a = fillL y (pairsOf ops) a0
  grown : R w0 w
  facts : ∀ j, listed.getD j false = true → Φ j (y j) w
  open_ : ∀ j d, listed.getD j true = false → (ops[j]?).bind (·.dst) = some d → a0.put (some d) (y j) = a0
  closed : ∀ j, listed.getD j false = true → ∀ k ∈ D.getD j [], listed.getD k false = true

theorem put_self (a : Act) (d : Nat) : a.put (some d) (a.tmps.getD d undef) = a := by
  cases a with
  | mk t df =>
    simp only [Act.put]
    congr 1
    apply Array.ext
    · simp
    · intro i h1 h2
      rw [Array.getElem_setIfInBounds h2]
      split
      · rename_i he; subst he; simp [Array.getD, h2]
      · rfl

theorem listed_cases {listed : Array Bool} {j : Nat} (hj : j < listed.size) : listed.getD j true = listed.getD j false := by
  simp [Array.getD, hj]

theorem wpAny_of_facts {R : World → World → Prop} {D : Array (List Nat)} {Φ : Nat → Value → World → Prop} {a0 : Act} {w0 : World} {Q : Exit → Act → World → Prop}
    (hRt : ∀ {a b c : World}, R a b → R b c → R a c) (hchk : factsOK ops D = true) (hst : ∀ j v w w', R w w' → Φ j v w → Φ j v w') (hrr : ∀ w, R w w)
    (hop : ∀ i o, ops[i]? = some o → opWord P ops R D Φ a0 w0 i o)
    (hfin : ∀ y w, R w0 w → (∀ j, j < ops.size → Φ j (y j) w) → Q .normal (fillL y (pairsOf ops) a0) w) :
    ∀ (fuel : Nat) (listed : Array Bool) (a : Act) (w : World) (y : Nat → Value), ((List.range ops.size).filter fun j => !listed.getD j true).length ≤ fuel →
      InvF ops R D Φ a0 w0 listed a w y → wpAny P .any ops Q fuel listed a w := by
  simp only [factsOK, Bool.and_eq_true, List.all_eq_true, List.mem_range] at hchk
  obtain ⟨hkeys, hrows⟩ := hchk
  -- nothing ready: all has been listed
  have hall : ∀ (listed : Array Bool), listed.size = ops.size → Region.ready .any ops listed = [] → ∀ j, j < ops.size → listed.getD j false = true := by
    intro listed hs hnil j
    induction j using Nat.strongRecOn with
    | ind j ih =>
      intro hj
      cases hl : listed.getD j false with
      | true => rfl
      | false =>
        exfalso
        have hmem : j ∈ Region.ready .any ops listed := by
          rw [mem_ready]
          refine ⟨by rw [listed_cases (by omega)]; exact hl, ops[j], Array.getElem?_eq_getElem hj, fun e he hb => ?_⟩
          have hrow := hrows j hj
          rw [Array.getElem?_eq_getElem hj] at hrow
          simp only [Bool.and_eq_true, List.all_eq_true, decide_eq_true_eq] at hrow
          have hlt := hrow.1 e.on (List.mem_map.2 ⟨e, List.mem_filter.2 ⟨by simpa using he, hb⟩, rfl⟩)
          exact ih e.on hlt (by omega)
        rw [hnil] at hmem
        cases hmem
  have hdone : ∀ (listed : Array Bool) (a : Act) (w : World) (y : Nat → Value), InvF ops R D Φ a0 w0 listed a w y → Region.ready .any ops listed = [] → Q .normal a w := by
    intro listed a w y hI hnil
    rw [hI.act]
    exact hfin y w hI.grown (fun j hj => hI.facts j (hall listed hI.size hnil j hj))
  intro fuel
  induction fuel with
  | zero =>
    intro listed a w y hlen hI
    have hnil : Region.ready .any ops listed = [] := by
      have h0 : ((List.range ops.size).filter fun j => !listed.getD j true) = [] := List.length_eq_zero_iff.1 (by omega)
      refine List.eq_nil_iff_forall_not_mem.2 fun j hj => ?_
      have hj' := mem_ready.1 hj
      have : j ∈ ((List.range ops.size).filter fun j => !listed.getD j true) := by
        obtain ⟨hl, o, ho, _⟩ := hj'
        exact List.mem_filter.2 ⟨List.mem_range.2 (Array.getElem?_eq_some_iff.1 ho).1, by simp [hl]⟩
      rw [h0] at this
      cases this
    exact ⟨hnil, hdone listed a w y hI hnil⟩
  | succ fuel ih =>
    intro listed a w y hlen hI
    refine ⟨hdone listed a w y hI, fun i hi => ?_⟩
    obtain ⟨hun, o, ho, hedges⟩ := mem_ready.1 hi
    have hilt : i < ops.size := (Array.getElem?_eq_some_iff.1 ho).1
    have hunf : listed.getD i false = false := by rw [← listed_cases (by rw [hI.size]; exact hilt)]; exact hun
    have hrow := hrows i hilt
    rw [ho] at hrow
    simp only [Bool.and_eq_true, List.all_eq_true, decide_eq_true_eq, List.any_eq_true, Bool.or_eq_true, beq_iff_eq, List.contains_iff_mem] at hrow
    -- what i waits for has been listed
    have hD : ∀ k ∈ D.getD i [], listed.getD k false = true := by
      intro k hk
      obtain ⟨e, he, hek⟩ := hrow.2 k hk
      obtain ⟨ed, hed, rfl⟩ := List.mem_map.1 he
      obtain ⟨hed1, hed2⟩ := List.mem_filter.1 hed
      have hl := hedges ed (by simpa using hed1) hed2
      rcases hek with rfl | hek
      · exact hl
      · exact hI.closed _ hl k hek
    have hcan : fillL y (canonL ops D i) a0 = a := by
      rw [hI.act]
      refine fillL_filter y _ _ a0 hkeys ?_
      rintro ⟨d, j⟩ hq hp
      simp only [Bool.not_eq_false', Bool.or_eq_true, beq_iff_eq] at hp
      have hdst := mem_pairsOf.1 hq
      refine hI.open_ j d ?_ hdst
      rcases hp with rfl | hw
      · exact hun
      · have hjlt : j < listed.size := by
          rw [hI.size]
          rcases Nat.lt_or_ge j ops.size with h' | h'
          · exact h'
          · rw [Array.getElem?_eq_none h'] at hdst; cases hdst
        rw [listed_cases hjlt]
        cases hl : listed.getD j false with
        | false => rfl
        | true =>
          have := hI.closed j hl i (by simpa [waits] using hw)
          rw [hunf] at this
          cases this
    have hw := hop i o ho y w hI.grown (fun j hj => hI.facts j (hD j hj)) (fun a' w' => ∃ v, a' = a.put o.dst v ∧ R w w' ∧ Φ i v w')
    rw [hcan] at hw
    have hlen' : ((List.range ops.size).filter fun j => !(listed.setIfInBounds i true).getD j true).length ≤ fuel := by
      have : ((List.range ops.size).filter fun j => !(listed.setIfInBounds i true).getD j true).length < ((List.range ops.size).filter fun j => !listed.getD j true).length := by
        refine filter_lt _ i (fun j hj => ?_) (List.mem_range.2 hilt) (by rw [hun]; rfl) ?_
        · by_cases hij : i = j
          · subst hij
            have h2 : i < listed.size := by rw [hI.size]; exact hilt
            simp [h2] at hj
          · rw [getD_set_ne true hij] at hj; exact hj
        · have h2 : i < listed.size := by rw [hI.size]; exact hilt
          simp [h2]
      omega
    have hnext : ∀ v w', R w w' → Φ i v w' → wpAny P .any ops Q fuel (listed.setIfInBounds i true) (a.put o.dst v) w' := by
      intro v w' hr hφ
      have h2 : i < listed.size := by rw [hI.size]; exact hilt
      refine ih _ _ _ (fun k => if k = i then v else y k) hlen' ⟨by simp [hI.size], ?_, hRt hI.grown hr, ?_, ?_, ?_⟩
      · cases hd : o.dst with
        | none =>
          rw [hI.act]
          show fillL y (pairsOf ops) a0 = _
          refine fillL_congr _ _ _ _ fun p hp => ?_
          have := mem_pairsOf.1 (show (p.1, p.2) ∈ pairsOf ops from hp)
          have hne : p.2 ≠ i := fun he => by rw [he, ho] at this; simp [hd] at this
          simp [hne]
        | some d =>
          rw [hI.act, fillL_set y i v _ a0 d hkeys (mem_pairsOf.2 (by simp [ho, hd]))]
      · intro j hj
        by_cases hji : j = i
        · subst hji; simpa using hφ
        · simp only [hji, if_false]
          rw [getD_set_ne false (Ne.symm hji)] at hj
          exact hst j _ _ _ hr (hI.facts j hj)
      · intro j d hj hdst
        have hji : j ≠ i := fun he => by subst he; simp [h2] at hj
        simp only [hji, if_false]
        rw [getD_set_ne true (Ne.symm hji)] at hj
        exact hI.open_ j d hj hdst
      · intro j hj k hk
        by_cases hji : j = i
        · subst hji; exact getD_set_true (hD k hk)
        · rw [getD_set_ne false (Ne.symm hji)] at hj
          exact getD_set_true (hI.closed j hj k hk)
    unfold wpOp
    simp only [ho]
    have hw2 := hw (fun v w' hr hφ => ⟨v, rfl, hr, hφ⟩)
    split at hw2
    · rename_i hwa
      rw [if_pos hwa]
      refine .inl ?_
      have h3 : o.wp P a w (wpAny P .any ops Q fuel (listed.setIfInBounds i true)) (fun _ _ _ => False) :=
        Oper.wp_mono (fun a' w' ⟨v, he, hr, hφ⟩ => by subst he; exact hnext v w' hr hφ) hw2
      exact wp_exit h3
    · rename_i hwa
      rw [if_neg hwa]
      obtain ⟨v, he, hr, hφ⟩ := hw2
      rw [he]
      exact hnext v w hr hφ
where
  wp_exit {o : Oper} {a : Act} {w : World} {K : Act → World → Prop} {Q : Exit → Act → World → Prop} (h : o.wp P a w K (fun _ _ _ => False)) : o.wp P a w K Q := by
    unfold Oper.wp at *
    generalize (execOp a.eval o).run P w = r at *
    cases r with
    | ok n w' =>
      cases n <;> simp only [Oper.upon] at h ⊢
      case enter f args =>
        refine Calls.mono h fun e w'' he => ?_
        cases e with
        | returned v => exact he
        | panicked c => exact he.elim
        | outgrown => obtain ⟨_, _, hq⟩ := he; exact hq.elim
      all_goals exact h
    | halt x w' => cases x <;> simp only [Oper.upon] at h

/-- **A region that draws its order, by facts.** -/
theorem wp_region_facts {id : Nat} {a0 : Act} {w0 : World} {Q : Exit → Act → World → Prop} (R : World → World → Prop) (D : Array (List Nat)) (Φ : Nat → Value → World → Prop) (hm : P.follows .mixedOrders = true)
    (hRt : ∀ {a b c : World}, R a b → R b c → R a c) (hrr : ∀ w, R w w) (hd : R w0 w0.drew) (hchk : factsOK ops D = true) (hst : ∀ j v w w', R w w' → Φ j v w → Φ j v w')
    (hop : allWords (opWord P ops R D Φ a0 w0) 0 ops.toList)
    (hfin : ∀ y w, R w0 w → (∀ j, j < ops.size → Φ j (y j) w) → Q .normal (fillL y (pairsOf ops) a0) w) : (Code.region id ops true).wp P Q a0 w0 := by
  refine wp_region_any hm ?_
  refine wpAny_of_facts (R := R) (D := D) (Φ := Φ) (a0 := a0) (w0 := w0) hRt hchk hst hrr (fun i o ho => ?_) hfin ops.size _ a0 _ (fun j => match (ops[j]?).bind (·.dst) with | some d => a0.tmps.getD d undef | none => undef) ?_ ⟨by simp, ?_, hd, ?_, ?_, ?_⟩
  · have := allWords_get _ 0 i o hop (by simpa using ho)
    simpa using this
  · exact Nat.le_trans (List.length_filter_le _ _) (by simp)
  · symm
    have : ∀ (L : List (Nat × Nat)), (∀ p ∈ L, (ops[p.2]?).bind (·.dst) = some p.1) → fillL (fun j => match (ops[j]?).bind (·.dst) with | some d => a0.tmps.getD d undef | none => undef) L a0 = a0 := by
      intro L
      induction L with
      | nil => intro _; rfl
      | cons p L ih =>
        intro h
        obtain ⟨d, j⟩ := p
        have hd := h (d, j) (by simp)
        simp only at hd
        show fillL _ L (a0.put (some d) _) = a0
        simp only [hd]
        rw [put_self]
        exact ih (fun p hp => h p (by simp [hp]))
    exact this _ (fun p hp => mem_pairsOf.1 hp)
  · intro j hj
    have h : (Array.replicate ops.size false).getD j false = false := by
      simp [Array.getD]
    rw [h] at hj; cases hj
  · intro j d _ hdst
    simp only [hdst]
    exact put_self a0 d
  · intro j hj
    have h : (Array.replicate ops.size false).getD j false = false := by
      simp [Array.getD]
    rw [h] at hj; cases hj


/-! ### the same with written-out tables -/
/-- Equality with a value, as a fact. -/
def Is (v : Value) (u : Value) (_ : World) : Prop := u = v

def depsH (Φ : List (Value → World → Prop)) (y : Nat → Value) (w : World) : List Nat → Prop
  | [] => True
  | j :: r => Φ.getD j (fun _ _ => True) (y j) w ∧ depsH Φ y w r
theorem depsH_of {Φ : List (Value → World → Prop)} {y : Nat → Value} {w : World} : ∀ (d : List Nat), (∀ j ∈ d, Φ.getD j (fun _ _ => True) (y j) w) → depsH Φ y w d
  | [], _ => trivial
  | j :: r, h => ⟨h j (by simp), depsH_of r (fun k hk => h k (by simp [hk]))⟩
def stL (R : World → World → Prop) : List (Value → World → Prop) → Prop
  | [] => True
  | φ :: r => (∀ v w w', R w w' → φ v w → φ v w') ∧ stL R r
theorem stL_mem {R : World → World → Prop} : ∀ (Φ : List (Value → World → Prop)), stL R Φ → ∀ φ ∈ Φ, ∀ v w w', R w w' → φ v w → φ v w'
  | φ :: r, h, ψ, hm => by
    rcases List.mem_cons.1 hm with e | e
    · subst e; exact h.1
    · exact stL_mem r h.2 ψ e
theorem is_st {R : World → World → Prop} {x : Value} : ∀ v w w', R w w' → Is x v w → Is x v w' := fun _ _ _ _ h => h
/-- All facts, one behind the other. -/
def factsH (y : Nat → Value) (w : World) : Nat → List (Value → World → Prop) → Prop
  | _, [] => True
  | i, φ :: r => φ (y i) w ∧ factsH y w (i + 1) r
theorem factsH_of {Φ0 : List (Value → World → Prop)} {y : Nat → Value} {w : World} : ∀ (Φ : List (Value → World → Prop)) (i : Nat), (∀ k, Φ[k]? = Φ0[i + k]?) → (∀ j, j < i + Φ.length → Φ0.getD j (fun _ _ => True) (y j) w) → factsH y w i Φ
  | [], _, _, _ => trivial
  | φ :: r, i, h, hj => by
    refine ⟨?_, factsH_of r (i + 1) (fun k => ?_) (fun j hj' => hj j (by simp; omega))⟩
    · have h0 := hj i (by simp)
      have := h 0
      simp at this
      simpa [List.getD_eq_getElem?_getD, ← this] using h0
    · have := h (k + 1)
      simp at this
      rw [this]; congr 1; omega

def word (P : Program) (ops : Array Oper) (R : World → World → Prop) (Φ : List (Value → World → Prop)) (a0 : Act) (w0 : World) (i : Nat) (o : Oper) (d : List Nat) (c : List (Nat × Nat)) : Prop :=
  ∀ (y : Nat → Value) (w : World), R w0 w → depsH Φ y w d → ∀ K : Act → World → Prop,
    (∀ a' v w', a' = (fillL y c a0).put o.dst v → R w w' → Φ.getD i (fun _ _ => True) v w' → K a' w') →
    if Region.wanted o (yielded ops (fillL y c a0).tmps) then o.wp P (fillL y c a0) w K (fun _ _ _ => False) else K ((fillL y c a0).put o.dst undef) w

def allW (P : Program) (ops : Array Oper) (R : World → World → Prop) (Φ : List (Value → World → Prop)) (a0 : Act) (w0 : World) : Nat → List Oper → List (List Nat) → List (List (Nat × Nat)) → Prop
  | _, [], _, _ => True
  | i, o :: r, d :: ds, c :: cs => word P ops R Φ a0 w0 i o d c ∧ allW P ops R Φ a0 w0 (i + 1) r ds cs
  | _, _ :: _, _, _ => False

def tablesOK (ops : Array Oper) (D : List (List Nat)) (C : List (List (Nat × Nat))) (F : List (Nat × Nat)) : Bool :=
  factsOK ops D.toArray && (decide (F = pairsOf ops)) && (List.range ops.size).all fun i => decide (C.getD i [] = canonL ops D.toArray i)

theorem allW_words {R : World → World → Prop} {Φ : List (Value → World → Prop)} {a0 : Act} {w0 : World} (D0 : List (List Nat)) (C0 : List (List (Nat × Nat))) (hC : ∀ i, i < ops.size → C0.getD i [] = canonL ops D0.toArray i) :
    ∀ (l : List Oper) (i : Nat) (D : List (List Nat)) (C : List (List (Nat × Nat))), i + l.length = ops.size → (∀ k, D[k]? = D0[i + k]?) → (∀ k, C[k]? = C0[i + k]?) → allW P ops R Φ a0 w0 i l D C →
      allWords (opWord P ops R D0.toArray (fun j => Φ.getD j (fun _ _ => True)) a0 w0) i l := by
  intro l
  induction l with
  | nil => intros; trivial
  | cons o r ih =>
    intro i D C hl hD hC' h
    match D, C, h with
    | d :: ds, c :: cs, h =>
      obtain ⟨h1, h2⟩ := h
      refine ⟨?_, ih (i + 1) ds cs (by simp at hl; omega) (fun k => ?_) (fun k => ?_) h2⟩
      · have hd : D0.toArray.getD i [] = d := by
          have := hD 0
          simp at this
          simp [Array.getD_eq_getD_getElem?, ← this]
        have hc : canonL ops D0.toArray i = c := by
          rw [← hC i (by simp at hl; omega)]
          have := hC' 0
          simp at this
          simp [List.getD_eq_getElem?_getD, ← this]
        intro y w hR hj K hK
        rw [hd] at hj
        rw [hc] at hK ⊢
        exact h1 y w hR (depsH_of _ hj) K (fun a' v w' he hr hφ => by subst he; exact hK v w' hr hφ)
      · have := hD (k + 1)
        simp at this
        rw [this]; congr 1; omega
      · have := hC' (k + 1)
        simp at this
        rw [this]; congr 1; omega

/-- **A region that draws its order, by facts, the tables written out.** -/
theorem wp_region_tables {id : Nat} {a0 : Act} {w0 : World} {Q : Exit → Act → World → Prop} (R : World → World → Prop) (D : List (List Nat)) (C : List (List (Nat × Nat))) (F : List (Nat × Nat)) (Φ : List (Value → World → Prop)) (hm : P.follows .mixedOrders = true)
    (hRt : ∀ {a b c : World}, R a b → R b c → R a c) (hrr : ∀ w, R w w) (hd : R w0 w0.drew) (hchk : tablesOK ops D C F = true) (hst : stL R Φ)
    (hop : allW P ops R Φ a0 w0 0 ops.toList D C)
    (hlen : Φ.length = ops.size)
    (hfin : ∀ y w, R w0 w → factsH y w 0 Φ → Q .normal (fillL y F a0) w) : (Code.region id ops true).wp P Q a0 w0 := by
  simp only [tablesOK, Bool.and_eq_true, decide_eq_true_eq, List.all_eq_true, List.mem_range] at hchk
  obtain ⟨⟨h1, h2⟩, h3⟩ := hchk
  subst h2
  refine wp_region_facts R D.toArray (fun j => Φ.getD j (fun _ _ => True)) hm hRt hrr hd h1 ?_ (allW_words D C h3 ops.toList 0 D C (by simp) (by simp) (by simp) hop) (fun y w hr hj => hfin y w hr (factsH_of Φ 0 (by simp) (fun j h => hj j (by rw [← hlen]; simpa using h))))
  intro j v w w' hr hφ
  rcases Nat.lt_or_ge j Φ.length with hj | hj
  · have e : Φ.getD j (fun _ _ => True) = Φ[j] := by simp [List.getD_eq_getElem?_getD, hj]
    rw [e] at hφ ⊢
    exact stL_mem Φ hst _ (List.getElem_mem hj) v w w' hr hφ
  · have e : Φ.getD j (fun _ _ => True) = fun _ _ => True := by simp [List.getD_eq_getElem?_getD, hj]
    rw [e]; trivial

end
end Go.Proofs.Ytajpbclcfjljnaa

/-
  Plain lemmas over any program: small laws that the walks of this claim use beside the kit's. Conditions: each states its own.
-/
namespace Go.Proofs.Ytajpbclcfjljnaa
set_option linter.unusedSimpArgs false
set_option linter.unusedVariables false
open Go Go.RowKit

theorem ret_int {k : IntKind} {a b : Int} (h : a = b) : Ending.returned (.int k a) = .returned (.int k b) := by rw [h]
theorem ret_bool {a b : Bool} (h : a = b) : Ending.returned (.bool a) = .returned (.bool b) := by rw [h]

section
variable {P : Program}

theorem wpList_build_eq {ops : Array Oper} {rest : List Oper} {o : Oper} {a : Act} {w : World} {Q : Exit → Act → World → Prop} (hg : o.guard = none) (t : TypeId) (parts : Array (Nat × Operand)) (ho : o.op = .build t parts)
    (cells : Array Value) (hf : P.built t (parts.map fun (i, x) => (i, a.eval x)).toList = some cells)
    (h : wpList P ops Q rest (a.put o.dst (.agg cells)) w) : wpList P ops Q (o :: rest) a w :=
  wpList_build hg t parts ho (by rw [hf]; rfl) (by rw [hf]; exact h)

/-- 'a[i]' of an array value whose elements are structs of sz cells. -/
theorem run_index_agg (t e : TypeId) (n sz : Nat) (cs : Array Value) (k : IntKind) (i : Int) (w : World) (h : P.underlying t = some (.array n e))
    (he : (isAgg e).run P w = .ok true w) (hs : (P.info? e).map (·.size) = some sz) (h0 : 0 ≤ i) (h1 : i < n) :
    (Instr.index t (.agg cs) (.int k i)).run P w = .ok (.agg (cs.extract (i.toNat * sz) (i.toNat * sz + sz))) w := by
  have hn : 0 ≤ i ∧ i < (n : Int) := ⟨h0, h1⟩
  cases hq : P.info? e with
  | none => simp [hq] at hs
  | some ie =>
    have hsz : ie.size = sz := by simpa [hq] using hs
    have hso : (sizeOf e).run P w = .ok sz w := by simp [sizeOf, typeInfo, hq, hsz]
    unfold Instr.index
    simp only [asIntOf, Sem.run_bind, Sem.run_pure, Result.andThen_ok, run_underlying h, hn, and_self, if_true, hso, part, he]

/-- The world behind a store of a whole row into the newest block. -/
theorem setRow_alloc (w : World) (cs old : Array Value) (t : TypeId) (fr : Nat × Nat) : (w.alloc (.cells old t fr)).setRow w.heap.size cs = w.alloc (.cells cs t fr) := by
  unfold World.setRow World.alloc
  simp only [World.mk.injEq, and_true, true_and]
  apply Array.ext
  · simp
  · intro i h1 h2
    rw [Array.getElem_modify]
    split
    · rename_i he; subst he; simp
    · rename_i he
      simp at h1 h2
      rw [Array.getElem_push_lt (by omega), Array.getElem_push_lt (by omega)]

end

end Go.Proofs.Ytajpbclcfjljnaa

/-
  The buffer in memory: what a world holds of it, which blocks a call may turn, and the contracts of the small calls (none, Err, Len, fail).
-/
namespace Go.Proofs.Ytajpbclcfjljnaa
open Go Go.ChangeShapes Go.WideShapes Go.ChangeAt Go.RowKit Go.Joins
open Go.ChangeMaps (open_string shut_string)
set_option linter.unusedVariables false
set_option linter.unusedSimpArgs false

theorem Grew.drewN {a w : World} (h : Grew a w) (n : Nat) : Grew a (w.drewN n) := by
  have h2 : Below a.heap.size a w := h
  exact ⟨h2.os, h2.tape, h2.output, h2.size, h2.block⟩
/-- Old blocks outside S are as they were. -/
structure Moved (S : Nat → Prop) (w w' : World) : Prop where
  os : w'.os = w.os
  tape : w'.tape = w.tape
  output : w'.output = w.output
  size : w.heap.size ≤ w'.heap.size
  block : ∀ k, k < w.heap.size → ¬ S k → w'.heap[k]? = w.heap[k]?

namespace Moved
variable {S T : Nat → Prop} {a b c w w' : World}
theorem refl (S : Nat → Prop) (w : World) : Moved S w w := ⟨rfl, rfl, rfl, Nat.le_refl _, fun _ _ _ => rfl⟩
theorem trans (h : Moved S a b) (k : Moved T b c) (hT : ∀ j, j < a.heap.size → T j → S j) : Moved S a c :=
  ⟨k.os.trans h.os, k.tape.trans h.tape, k.output.trans h.output, Nat.le_trans h.size k.size,
   fun j hj hS => (k.block j (Nat.lt_of_lt_of_le hj h.size) (fun ht => hS (hT j hj ht))).trans (h.block j hj hS)⟩
theorem trans' (h : Moved S a b) (k : Moved S b c) : Moved S a c := h.trans k (fun _ _ h => h)
theorem mono (h : Moved S a b) (hS : ∀ j, j < a.heap.size → S j → T j) : Moved T a b := ⟨h.os, h.tape, h.output, h.size, fun j hj hT => h.block j hj (fun hs => hT (hS j hj hs))⟩
theorem of_grew (h : Grew a b) : Moved S a b := ⟨h.os, h.tape, h.output, h.size, fun k hk _ => h.block k hk⟩
theorem grew (h : Moved S a b) (k : Grew b c) : Moved S a c := h.trans (of_grew (S := fun _ => False) k) (fun _ _ h => h.elim)
theorem of_grown {row : Option Nat} (h : w.grownBy w' row) : Moved (fun k => some k = row) w w' := ⟨h.os, h.tape, h.output, h.size, h.block⟩
theorem alloc (h : Moved S a w) (o : Obj) : Moved S a (w.alloc o) := h.grew ((Grew.refl w).alloc o)
theorem setCell (h : Moved S a w) {p : Addr} (hp : p.block < a.heap.size → S p.block) (u : Value) : Moved S a (w.setCell p u) :=
  h.trans (T := fun k => k = p.block) ⟨rfl, rfl, rfl, by simp [World.setCell], fun k _ hk => Below.heap_setCell _ _ _ _ hk⟩ (fun j hj e => e ▸ hp (e ▸ hj))
theorem drew (h : Moved S a w) : Moved S a w.drew := ⟨h.os, h.tape, h.output, h.size, h.block⟩
theorem below {B : Nat} (h : Moved S a b) (hB : B ≤ a.heap.size) (hS : ∀ k, S k → B ≤ k) : Below B a b :=
  ⟨h.os, h.tape, h.output, h.size, fun k hk => h.block k (by omega) (fun hs => by have := hS k hs; omega)⟩
theorem heap (h : Moved S w w') {k : Nat} {o : Obj} (hk : w.heap[k]? = some o) (hS : ¬ S k) : w'.heap[k]? = some o :=
  (h.block k (Array.getElem?_eq_some_iff.1 hk).1 hS).trans hk
theorem cell (h : Moved S w w') {p : Addr} {v : Value} (hc : w.cell? p = some v) (hS : ¬ S p.block) : w'.cell? p = some v :=
  (World.cell?_of_block (h.block p.block (World.block_lt_of_cell? w p hc) hS)).trans hc
theorem owns (h : Moved S w w') {B : Nat} {e : TypeId} {size : Nat} {v : Value} {n : Nat} {xs : List Value} (ho : w.ownsRow B e size v n xs) (hS : ∀ k, v.ownBlock = some k → ¬ S k) : w'.ownsRow B e size v n xs := by
  obtain ⟨h1, h2⟩ := ho
  refine ⟨h1, ?_⟩
  rcases h2 with h2 | ⟨g, cap, cur, rfl, hb, hg, r⟩
  · exact .inl h2
  · exact .inr ⟨g, cap, cur, rfl, hb, h.heap hg (hS g rfl), r⟩
end Moved

/-- The blocks of one buffer: its own and its row's. -/
def Own2 (p : Nat) (o : Option Nat) (k : Nat) : Prop := k = p ∨ some k = o
/-- The row is the old one, or a new block, or none. -/
def Next (w : World) (o o' : Option Nat) : Prop := ∀ k, o' = some k → o = some k ∨ w.heap.size ≤ k
theorem Next.refl (w : World) (o : Option Nat) : Next w o o := fun _ h => .inl h
theorem Next.fresh {w : World} {o : Option Nat} {j : Nat} (h : w.heap.size ≤ j) : Next w o (some j) := fun k e => by cases e; exact .inr h
theorem Next.earlier {w w' : World} {o o' : Option Nat} (h : Next w' o o') (hs : w.heap.size ≤ w'.heap.size) : Next w o o' := fun k e => (h k e).imp id (fun h => Nat.le_trans hs h)
theorem Next.trans {w w' : World} {o o1 o2 : Option Nat} (h : Next w o o1) (k : Next w' o1 o2) (hs : w.heap.size ≤ w'.heap.size) : Next w o o2 := fun j e => by
  rcases k j e with h1 | h1
  · exact h j h1
  · exact .inr (by omega)
/-- What a call on a buffer may turn. -/
theorem Moved.own {p : Nat} {o o' : Option Nat} {a b c : World} (h : Moved (Own2 p o) a b) (hn : Next a o o') (k : Moved (Own2 p o') b c) : Moved (Own2 p o) a c :=
  h.trans k fun j hj hs => by
    rcases hs with rfl | hs
    · exact .inl rfl
    · rcases hn j hs.symm with h1 | h1
      · exact .inr h1.symm
      · omega

/-- A buffer of the program: its struct's block, its row's block, contents, capacity, error. -/
def BufAt (B : Nat) (w : World) (p : Nat) (o : Option Nat) (l : List UInt8) (most e : Int) : Prop :=
  B ≤ p ∧ ∃ v, w.heap[p]? = some (.cells #[.bool true, v, .int .i64 most, .int .i64 e] 75 (0, 0)) ∧ w.ownsRow B 5 1 v l.length (Lib.byteCells l) ∧ v.ownBlock = o ∧ o ≠ some p
section
variable {B : Nat} {w w' : World} {p : Nat} {o : Option Nat} {l : List UInt8} {most e : Int}
theorem BufAt.kept {S : Nat → Prop} (h : BufAt B w p o l most e) (hm : Moved S w w') (hp : ¬ S p) (ho : ∀ k, o = some k → ¬ S k) : BufAt B w' p o l most e := by
  obtain ⟨hB, v, h1, h2, h3, h4⟩ := h
  exact ⟨hB, v, hm.heap h1 hp, hm.owns h2 (fun k hk => ho k (h3 ▸ hk)), h3, h4⟩
theorem BufAt.grew (h : BufAt B w p o l most e) (hg : Grew w w') : BufAt B w' p o l most e := h.kept (Moved.of_grew (S := fun _ => False) hg) (fun h => h) (fun _ _ h => h)
theorem row_form {t : TypeId} {v : Value} (h : w.ownsRow B t 1 v l.length (Lib.byteCells l)) : ∃ a c, v = .slice a l.length c ∧ l.length ≤ c ∧ (a = none → c = 0) := by
  rcases h.2 with ⟨rfl, hn⟩ | ⟨g, cap, cur, rfl, _, _, hn, _⟩
  · exact ⟨none, 0, by rw [hn], by omega, fun _ => rfl⟩
  · exact ⟨_, cap, rfl, hn, fun h => by cases h⟩
theorem four_cells {a b c d : Value} {t : TypeId} (h : w.heap[p]? = some (.cells #[a, b, c, d] t (0, 0))) :
    w.cell? ⟨p, 0, none⟩ = some a ∧ w.cell? ⟨p, 1, none⟩ = some b ∧ w.cell? ⟨p, 2, none⟩ = some c ∧ w.cell? ⟨p, 3, none⟩ = some d :=
  ⟨by rw [cell_of_row w p 0 _ _ _ h]; rfl, by rw [cell_of_row w p 1 _ _ _ h]; rfl, by rw [cell_of_row w p 2 _ _ _ h]; rfl, by rw [cell_of_row w p 3 _ _ _ h]; rfl⟩
theorem row_frozen {cs : Array Value} {t : TypeId} (h : w.heap[p]? = some (.cells cs t (0, 0))) (k : Nat) : w.frozen? ⟨p, k, none⟩ = false := by
  unfold World.frozen?
  simp only [h]
  simp
end
abbrev bptr (p : Nat) : Value := .pointer (some ⟨p, 0, none⟩)

theorem none_any {B : Nat} {w : World} {p : Nat} {o : Option Nat} {l : List UInt8} {most e : Int} (h : BufAt B w p o l most e) :
    Calls Try.prog 44 #[bptr p] w fun r w' => r = .returned (.bool false) ∧ w' = w := by
  obtain ⟨_, v, h1, _⟩ := h
  obtain ⟨c0, c1, c2, c3⟩ := four_cells h1
  clear h1
  go_enter Try.func44, Try.ntmps44
  go_wp2
  go_ret
  exact ⟨rfl, rfl⟩
theorem err_any {B : Nat} {w : World} {p : Nat} {o : Option Nat} {l : List UInt8} {most e : Int} (h : BufAt B w p o l most e) :
    Calls Try.prog 25 #[bptr p] w fun r w' => r = .returned (.int .i64 e) ∧ w' = w := by
  have HB := Lib.hid h
  obtain ⟨_, v, h1, _⟩ := h
  obtain ⟨c0, c1, c2, c3⟩ := four_cells h1
  clear h1
  go_enter Try.func25, Try.ntmps25
  go_wp2_with fail
  refine (none_any HB.out).mono ?_
  rintro r w' ⟨rfl, rfl⟩
  go_wp2
  go_ret
  exact ⟨rfl, rfl⟩
theorem len_any {B : Nat} {w : World} {p : Nat} {o : Option Nat} {l : List UInt8} {most e : Int} (h : BufAt B w p o l most e) :
    Calls Try.prog 28 #[bptr p] w fun r w' => r = .returned (.int .i64 l.length) ∧ w' = w := by
  have HB := Lib.hid h
  obtain ⟨_, v, h1, h2, _⟩ := h
  obtain ⟨c0, c1, c2, c3⟩ := four_cells h1
  obtain ⟨a, c, rfl, _, _⟩ := row_form h2
  clear h1 h2
  go_enter Try.func28, Try.ntmps28
  go_wp2_with fail
  refine (none_any HB.out).mono ?_
  rintro r w' ⟨rfl, rfl⟩
  go_wp2
  go_ret
  exact ⟨rfl, rfl⟩
/-- The error behind a call that fails. -/
def failS (e x : Int) : Int := if e = 0 then x else e
theorem heap_set4 {w : World} {p : Nat} {a b c d : Value} {t : TypeId} (h : w.heap[p]? = some (.cells #[a, b, c, d] t (0, 0))) (v : Value) :
    (w.setCell ⟨p, 3, none⟩ v).heap[p]? = some (.cells #[a, b, c, v] t (0, 0)) ∧ (w.setCell ⟨p, 1, none⟩ v).heap[p]? = some (.cells #[a, v, c, d] t (0, 0)) :=
  ⟨by have := heap_setCell_same w p 3 _ _ v h; simpa using this, by have := heap_setCell_same w p 1 _ _ v h; simpa using this⟩
theorem moved_set (w : World) (p i : Nat) (o : Option Nat) (v : Value) : Moved (Own2 p o) w (w.setCell ⟨p, i, none⟩ v) := (Moved.refl _ w).setCell (fun _ => .inl rfl) v
theorem fail_any {B : Nat} {w : World} {p : Nat} {o : Option Nat} {l : List UInt8} {most e : Int} (x : Int) (h : BufAt B w p o l most e) :
    Calls Try.prog 39 #[bptr p, .int .i64 x] w fun r w' => r = .returned (.tuple #[]) ∧ BufAt B w' p o l most (failS e x) ∧ Moved (Own2 p o) w w' := by
  have HB := Lib.hid h
  obtain ⟨hB, v, h1, h2, h3, h4⟩ := h
  obtain ⟨c0, c1, c2, c3⟩ := four_cells h1
  have H1 := Lib.hid h1
  have H2 := Lib.hid h2
  have H3 := Lib.hid h3
  have f3 := row_frozen h1 3
  clear h1 h2 h3
  have hnew : Hid (BufAt B (w.setCell ⟨p, 3, none⟩ (.int .i64 x)) p o l most x ∧ Moved (Own2 p o) w (w.setCell ⟨p, 3, none⟩ (.int .i64 x))) := by
    have hm : Moved (fun k => k = p) w (w.setCell ⟨p, 3, none⟩ (.int .i64 x)) := Moved.setCell (p := ⟨p, 3, none⟩) (Moved.refl (fun k => k = p) w) (fun _ => rfl) _
    exact ⟨⟨hB, v, (heap_set4 H1.out _).1, hm.owns H2.out (fun k hk he => h4 (by rw [← H3.out, hk, he])), H3.out, h4⟩, moved_set w p 3 o _⟩
  go_enter Try.func39, Try.ntmps39
  go_wp2_with fail
  refine (err_any HB.out).mono ?_
  rintro r w' ⟨rfl, rfl⟩
  by_cases he : e = 0
  · subst he
    go_wp2
    go_end0
    exact ⟨rfl, hnew.out.1, hnew.out.2⟩
  · go_wp2
    go_end0
    refine ⟨rfl, ?_, Moved.refl _ _⟩
    rw [failS, if_neg he]
    exact HB.out

end Go.Proofs.Ytajpbclcfjljnaa

/-
  The buffer's put: the error stays, or the capacity is spent, or the bytes are appended.
-/
namespace Go.Proofs.Ytajpbclcfjljnaa
open Go Go.ChangeShapes Go.WideShapes Go.ChangeAt Go.RowKit Go.Joins
set_option linter.unusedVariables false
set_option linter.unusedSimpArgs false

/-- A byte slice that reads as x. -/
def BytesAt (w : World) (v : Value) (x : List UInt8) : Prop :=
  ∃ a c, v = .slice a x.length c ∧ x.length ≤ c ∧ (a = none → c = 0) ∧ ∀ (i : Nat) (b : UInt8), x[i]? = some b → ∃ bl off, a = some ⟨bl, off, none⟩ ∧ w.cell? ⟨bl, off + i, none⟩ = some (.int .u8 b.toNat)
theorem BytesAt.grew {w w' : World} {v : Value} {x : List UInt8} (h : BytesAt w v x) (hg : Grew w w') : BytesAt w' v x := by
  obtain ⟨a, c, h1, h2, h3, h4⟩ := h
  refine ⟨a, c, h1, h2, h3, fun i b hb => ?_⟩
  obtain ⟨bl, off, e, hc⟩ := h4 i b hb
  exact ⟨bl, off, e, hg.cell hc⟩
theorem BytesAt.nil (w : World) : BytesAt w (.slice none 0 0) [] := ⟨none, 0, rfl, Nat.le_refl _, fun _ => rfl, by simp⟩
theorem BytesAt.of_own {w : World} {B : Nat} {t : TypeId} {v : Value} {l : List UInt8} (h : w.ownsRow B t 1 v l.length (Lib.byteCells l)) : BytesAt w v l := by
  have h0 := h
  obtain ⟨_, h2⟩ := h
  rcases h2 with ⟨rfl, hn⟩ | ⟨g, cap, cur, rfl, _, _, hn, _⟩
  · have : l = [] := List.length_eq_zero_iff.1 hn
    subst this
    exact BytesAt.nil w
  · refine ⟨some ⟨g, 0, none⟩, cap, rfl, hn, (fun h => by cases h), fun i b hb => ⟨g, 0, rfl, ?_⟩⟩
    have hi := (List.getElem?_eq_some_iff.1 hb).1
    rw [Nat.zero_add, World.ownsRow.cellAt h0 i (by omega)]
    simp [Lib.byteCells, hb]

theorem Try.infoByte : (Try.prog.info? 5).map (fun i => (i.zero, i.size, i.bytes)) = some (some (.int .u8 0), 1, 1) := by kernel_rfl
theorem byte_parts : ∃ i0, Try.prog.info? 5 = some i0 ∧ i0.zero = some (.int .u8 0) ∧ i0.size = 1 ∧ i0.bytes = 1 := by
  have h := Try.infoByte
  cases hq : Try.prog.info? 5 with
  | none => simp [hq] at h
  | some i => simp [hq] at h; exact ⟨i, rfl, h.1, h.2.1, h.2.2⟩

/-- Behind an append the row is the old one or a new block. -/
theorem append_next {P : Program} (w : World) (base : Nat) (t ty e : TypeId) (i : TypeInfo) (z : Value) (size bytes : Nat) (ht : P.underlying t = some (.slice e)) (hi : P.info? e = some i) (hz : i.zero = some z)
    (hsize : i.size = size) (hby : i.bytes = bytes) (hzs : z.cells.size = size) (hsz : 0 < size)
    (v : Value) (n : Nat) (xs : List Value) (hown : w.ownsRow base e size v n xs)
    (a : Addr) (m c : Nat) (news : List Value) (hl : news.length = m * size) (hnews : ∀ j u, news[j]? = some u → w.cell? (a.add j) = some u) (h1 : ∀ u ∈ news, u.oneCell' = true)
    (h63 : n + m ≤ maxLen) (hbytes : (n + m) * bytes ≤ 140737488355328) (hbase : base ≤ w.heap.size) :
    ∃ v' w', (Builtin.append_ #[t, t] ty #[v, .slice (some a) m c]).run P w = .ok v' w' ∧ w'.ownsRow base e size v' (n + m) (xs ++ news) ∧ w.grownBy w' v.ownBlock ∧ Next w v.ownBlock v'.ownBlock := by
  obtain ⟨v', w', hr, h2, h3, h4⟩ := run_append_own (P := P) w base t ty e i z size bytes ht hi hz hsize hby hzs hsz v n xs hown a m c news hl hnews h1 h63 hbytes hbase
  refine ⟨v', w', hr, h2, h3, ?_⟩
  subst hsize
  subst hby
  have h64 : n + m ≤ 9223372036854775807 := by simp only [maxLen] at h63; omega
  rcases hown.2 with ⟨rfl, rfl⟩ | ⟨g, cap, cur, rfl, hbg, hg, hnc, hcm, hcs, htake⟩
  · by_cases hm : m = 0
    · rw [h4.2 ⟨rfl, hm⟩]; exact Next.refl _ _
    · have hr2 := run_append_nil (P := P) w t ty e i z ht hi hz a m c news hl hnews (by omega) (by omega) (by have hb := hbytes; simp only [Nat.zero_add] at hb; omega)
      rw [hr] at hr2
      injection hr2 with e1 e2
      subst e1
      exact Next.fresh (Nat.le_refl _)
  · by_cases hroom : n + m ≤ cap
    · have hfit : n * i.size + news.length ≤ cur.size := by rw [hl, hcs, ← Nat.add_mul]; exact Nat.mul_le_mul_right _ hroom
      have hr2 := run_append_room (P := P) w t ty e i ht hi g n cap cur hg a m c news hl hnews h1 hroom hfit
      rw [hr] at hr2
      injection hr2 with e1 e2
      subst e1
      exact Next.refl _ _
    · have holds : ∀ j u, xs[j]? = some u → w.cell? ((⟨g, 0, none⟩ : Addr).add j) = some u := hown.cells (g := g) rfl
      have hr2 := run_append_grow (P := P) w t ty e i z ht hi hz ⟨g, 0, none⟩ n cap xs hown.1 holds a m c news hl hnews (by omega) (by omega) (growslice_fits (by omega) hbytes)
      rw [hr] at hr2
      injection hr2 with e1 e2
      subst e1
      exact Next.fresh (Nat.le_refl _)

theorem wpList_appendB {ops : Array Oper} {rest : List Oper} {o : Oper} {a : Act} {w : World} {Q : Exit → Act → World → Prop} (hgd : o.guard = none) (s x : Operand)
    (ho : o.op = .call { callee := .builtin .append, args := #[s, x], argTypes := #[36, 36] }) (B : Nat) (v : Value) (l : List UInt8) (hs : a.eval s = v) (hown : w.ownsRow B 5 1 v l.length (Lib.byteCells l))
    (sv : Value) (l2 : List UInt8) (hx : a.eval x = sv) (hsv : BytesAt w sv l2) (hlen : l.length + l2.length ≤ 1099511627776) (hB : B ≤ w.heap.size)
    (h : ∀ v' w', w'.ownsRow B 5 1 v' (l ++ l2).length (Lib.byteCells (l ++ l2)) → w.grownBy w' v.ownBlock → Next w v.ownBlock v'.ownBlock → wpList Try.prog ops Q rest (a.put o.dst v') w') : wpList Try.prog ops Q (o :: rest) a w := by
  obtain ⟨i0, hi, hz0, hz1, hz2⟩ := byte_parts
  obtain ⟨sa, cap, rfl, hcap, hnil, hc⟩ := hsv
  cases sa with
  | none =>
    have h0 : l2 = [] := by
      cases l2 with
      | nil => rfl
      | cons y r => obtain ⟨b, off, e, _⟩ := hc 0 y rfl; cases e
    subst h0
    have := hnil rfl
    subst this
    refine wpList_append_own_none hgd s x 36 ho B 5 i0 1 Try.underlying36 hi v l.length _ hs hown hx ?_
    exact h v w (by rw [List.append_nil]; exact hown) ⟨rfl, rfl, rfl, Nat.le_refl _, fun _ _ _ => rfl⟩ (Next.refl _ _)
  | some ad =>
    have hcells : ∀ j u, (Lib.byteCells l2)[j]? = some u → w.cell? (ad.add j) = some u := by
      intro j u hj
      simp only [Lib.byteCells, List.getElem?_map, Option.map_eq_some_iff] at hj
      obtain ⟨b, hb, rfl⟩ := hj
      obtain ⟨bl, off, e, hcell⟩ := hc j b hb
      cases e
      have : (⟨bl, off, none⟩ : Addr).add j = ⟨bl, off + j, none⟩ := by
        unfold Addr.add
        split
        · rename_i h; subst h; rfl
        · rfl
      rw [this]; exact hcell
    have hone : ∀ u ∈ Lib.byteCells l2, u.oneCell' = true := by
      intro u hu
      simp only [Lib.byteCells, List.mem_map] at hu
      obtain ⟨b, _, rfl⟩ := hu
      rfl
    obtain ⟨v', w', hr, h2, h3, h4⟩ := append_next (P := Try.prog) w B 36 o.type 5 i0 (.int .u8 0) 1 1 Try.underlying36 hi hz0 hz1 hz2 rfl (by decide) v l.length _ hown ad l2.length cap (Lib.byteCells l2) (by simp [Lib.byteCells]) hcells hone (by unfold maxLen; omega) (by omega) hB
    refine wpList_plain hgd fun _ hK => Lib.wp_append_run w s x 36 36 ho v _ hs hx v' w' hr (hK _ _ (h v' w' ?_ h3 h4))
    rw [List.length_append, show Lib.byteCells (l ++ l2) = Lib.byteCells l ++ Lib.byteCells l2 by simp [Lib.byteCells]]
    exact h2

/-- The buffer behind an append and the store of the new row. -/
theorem put_done {B : Nat} {w w3 : World} {p : Nat} {o : Option Nat} {l' : List UInt8} {most e : Int} {v v' : Value} (hBp : B ≤ p) (h1 : w.heap[p]? = some (.cells #[.bool true, v, .int .i64 most, .int .i64 e] 75 (0, 0))) (h3 : v.ownBlock = o) (h4 : o ≠ some p)
    (hown : w3.ownsRow B 5 1 v' l'.length (Lib.byteCells l')) (hgr : w.grownBy w3 v.ownBlock) (hnx : Next w v.ownBlock v'.ownBlock) :
    w3.heap[p]? = some (.cells #[.bool true, v, .int .i64 most, .int .i64 e] 75 (0, 0)) ∧
    (BufAt B (w3.setCell ⟨p, 1, none⟩ v') p v'.ownBlock l' most e ∧ Next w o v'.ownBlock ∧ Moved (Own2 p o) w (w3.setCell ⟨p, 1, none⟩ v')) := by
  have hlt : p < w.heap.size := (Array.getElem?_eq_some_iff.1 h1).1
  have hp3 : w3.heap[p]? = some (.cells #[.bool true, v, .int .i64 most, .int .i64 e] 75 (0, 0)) := (hgr.block p hlt (fun he => h4 (by rw [← h3, ← he]))).trans h1
  rw [h3] at hnx
  have hne : v'.ownBlock ≠ some p := by
    intro hq
    rcases hnx p hq with hn | hn
    · exact h4 hn
    · omega
  have hm : Moved (fun k => k = p) w3 (w3.setCell ⟨p, 1, none⟩ v') := Moved.setCell (p := ⟨p, 1, none⟩) (Moved.refl (fun k => k = p) w3) (fun _ => rfl) _
  refine ⟨hp3, ⟨hBp, v', (heap_set4 hp3 _).2, hm.owns hown (fun k hk he => hne (by rw [hk, he])), rfl, hne⟩, hnx, ?_⟩
  refine (Moved.of_grown hgr).mono (T := Own2 p o) (fun j _ hj => .inr (by rw [hj, h3])) |>.trans hm (fun j _ hj => .inl hj)

/-- What put makes of contents and error. -/
def putL (l x : List UInt8) (most e : Int) : List UInt8 := if e = 0 ∧ (x.length : Int) ≤ most - l.length then l ++ x else l
def putE (l x : List UInt8) (most e : Int) : Int := if e = 0 ∧ ¬ (x.length : Int) ≤ most - l.length then 5 else e
theorem put_any {B : Nat} {w : World} {p : Nat} {o : Option Nat} {l : List UInt8} {most e : Int} (sv : Value) (x : List UInt8) (h : BufAt B w p o l most e) (hB : B ≤ w.heap.size) (hm : l.length ≤ 1048576) (hm0 : 0 ≤ most) (hm1 : most ≤ 1048576) (hx : BytesAt w sv x) (hxl : x.length ≤ 9223372036854775807) :
    Calls Try.prog 40 #[bptr p, sv] w fun r w' => r = .returned (.tuple #[]) ∧ ∃ o', BufAt B w' p o' (putL l x most e) most (putE l x most e) ∧ Next w o o' ∧ Moved (Own2 p o) w w' := by
  have HB := Lib.hid h
  have HX := Lib.hid hx
  obtain ⟨hBp, v, h1, h2, h3, h4⟩ := h
  obtain ⟨c0, c1, c2, c3⟩ := four_cells h1
  obtain ⟨va, vc, rfl, _, _⟩ := row_form h2
  obtain ⟨xa, xc, rfl, _, _, _⟩ := hx
  have H1 := Lib.hid h1
  have H2 := Lib.hid h2
  have H3 := Lib.hid h3
  have H4 := Lib.hid h4
  have f1 := row_frozen h1 1
  clear h1 h2 h3 h4
  go_enter Try.func40, Try.ntmps40
  go_wp2_with fail
  refine (err_any HB.out).mono ?_
  rintro r w' ⟨rfl, rfl⟩
  by_cases he : e = 0
  · subst he
    go_wp2_with fail
    go_quiet (fail)
    have G := (Grew.refl w').drewN nq
    replace c0 := Grew.cell G c0
    replace c1 := Grew.cell G c1
    replace c2 := Grew.cell G c2
    replace c3 := Grew.cell G c3
    have HB2 := Lib.hid (HB.out.grew G)
    have HX2 := Lib.hid (HX.out.grew G)
    have H12 := Lib.hid (Grew.heap G H1.out)
    have H22 := Lib.hid ((Moved.of_grew (S := fun _ => False) G).owns H2.out (fun _ _ h => h))
    replace f1 := row_frozen H12.out 1
    have hB2 : B ≤ (w'.drewN nq).heap.size := Nat.le_trans hB (Grew.size G)
    have HG := Lib.hid G
    clear G H1 H2 HX hB
    generalize w'.drewN nq = w2 at *
    by_cases hlt : (x.length : Int) ≤ most - l.length
    · go_wp2_with (at_builtin; refine wpList_appendB rfl _ _ rfl B (.slice va l.length vc) l rfl H22.out _ x rfl HX2.out (by omega) hB2 ?_; intro v' w3 hown hgr hqq; obtain ⟨va2, vc2, rfl, _, _⟩ := row_form hown; have hd := put_done hBp H12.out H3.out H4.out hown hgr hqq; have hp3 := hd.1; have HD := Lib.hid hd.2; clear hd; obtain ⟨d0, d1, d2, d3⟩ := four_cells hp3; replace f1 := row_frozen hp3 1; clear hp3 hown hgr hqq c0 c1 c2 c3)
      go_wp2
      go_end0
      have HE := HD.out
      rw [List.length_append] at HE
      replace HD := Lib.hid HE
      clear HE
      refine ⟨rfl, Value.ownBlock (.slice va2 (l.length + x.length) vc2), ?_, ?_, ?_⟩
      · rw [putL, putE, if_pos ⟨rfl, hlt⟩, if_neg (fun h => h.2 hlt)]
        exact HD.out.1
      · exact HD.out.2.1.earlier (Grew.size HG.out)
      · exact (Moved.of_grew (S := Own2 p o) HG.out).trans' HD.out.2.2
    · go_wp2_with fail
      refine (fail_any 5 HB2.out).mono ?_
      rintro r w3 ⟨rfl, hb3, hm3⟩
      have HD := Lib.hid (And.intro hb3 hm3)
      clear hb3 hm3
      go_wp2
      go_end0
      refine ⟨rfl, o, ?_, Next.refl _ _, (Moved.of_grew (S := Own2 p o) HG.out).trans' HD.out.2⟩
      rw [putL, putE, if_neg (fun h => by have := h.2; omega), if_pos ⟨rfl, by omega⟩]
      exact HD.out.1
  · go_wp2
    go_end0
    refine ⟨rfl, o, ?_, Next.refl _ _, Moved.refl _ _⟩
    rw [putL, putE, if_neg (fun h => he h.1), if_neg (fun h => he h.1)]
    exact HB.out

end Go.Proofs.Ytajpbclcfjljnaa

/-
  The buffer's Cut, and the copy of its contents (Bytes).
-/
namespace Go.Proofs.Ytajpbclcfjljnaa
open Go Go.ChangeShapes Go.WideShapes Go.ChangeAt Go.RowKit Go.Joins
set_option linter.unusedVariables false
set_option linter.unusedSimpArgs false

theorem own_take {w : World} {B : Nat} {t : TypeId} {a : Option Addr} {c : Nat} {l : List UInt8} (h : w.ownsRow B t 1 (.slice a l.length c) l.length (Lib.byteCells l)) (k : Nat) (hk : k ≤ l.length) :
    w.ownsRow B t 1 (.slice a k c) (l.take k).length (Lib.byteCells (l.take k)) := by
  have hl : (l.take k).length = k := by rw [List.length_take]; omega
  rw [hl]
  obtain ⟨h1, h2⟩ := h
  refine ⟨by simp [Lib.byteCells]; omega, ?_⟩
  rcases h2 with ⟨he, hn⟩ | ⟨g, cap, cur, he, hb, hg, hn, hm, hs, ht⟩
  · injection he with e1 e2 e3
    subst e1 e3
    exact .inl ⟨by rw [show k = 0 by omega], by omega⟩
  · injection he with e1 e2 e3
    subst e1 e3
    refine .inr ⟨g, c, cur, rfl, hb, hg, by omega, hm, hs, ?_⟩
    have : Lib.byteCells (l.take k) = (Lib.byteCells l).take k := by simp [Lib.byteCells, List.map_take]
    rw [this, ← ht, List.take_take]
    congr 1
    omega

def cutL (l : List UInt8) (n e : Int) : List UInt8 := if e = 0 ∧ 0 ≤ n ∧ n ≤ l.length then l.take n.toNat else l
def cutE (l : List UInt8) (n e : Int) : Int := if e = 0 ∧ ¬ (0 ≤ n ∧ n ≤ l.length) then 6 else e
end Go.Proofs.Ytajpbclcfjljnaa

/-
  The copy of a byte slice (slices.Clone) and the buffer's Bytes.
-/
namespace Go.Proofs.Ytajpbclcfjljnaa
open Go Go.ChangeShapes Go.WideShapes Go.ChangeAt Go.RowKit Go.Joins
set_option linter.unusedVariables false
set_option linter.unusedSimpArgs false

/-- A fresh row of bytes: of blocks from B on, which is w's size. -/
theorem clone_any (w : World) (v : Value) (x : List UInt8) (h : BytesAt w v x) (hl : x.length ≤ 1099511627776) :
    Calls Try.prog 35 #[v] w fun r w' => ∃ v', r = .returned v' ∧ w'.ownsRow w.heap.size 5 1 v' x.length (Lib.byteCells x) ∧ Grew w w' := by
  have HX := Lib.hid h
  obtain ⟨a, c, rfl, hc, hnil, _⟩ := h
  cases a with
  | none =>
    have h0 := hnil rfl
    subst h0
    have h1 : x = [] := List.length_eq_zero_iff.1 (by omega)
    subst h1
    have hq := fun W => Lib.run_eql_slice_nil_nil (P := Try.prog) W 0 0 Try.underlying36
    show Calls Try.prog 35 #[.slice none 0 0] w _
    go_enter Try.func35, Try.ntmps35
    go_wp2
    go_ret
    exact ⟨_, rfl, World.ownsRow_nil _ _ _ _, Grew.refl _⟩
  | some ad =>
    have hq := fun W => Lib.run_eql_slice_some_nil (P := Try.prog) W ad x.length c Try.underlying36
    have hown : Hid ((w.alloc (.cells #[] 5)).ownsRow w.heap.size 5 1 (.slice (some ⟨w.heap.size, 0, none⟩) 0 0) ([] : List UInt8).length (Lib.byteCells [])) :=
      World.ownsRow_made w #[] 0 (Nat.le_refl _) (by decide) rfl
    have HX2 := Lib.hid (HX.out.grew ((Grew.refl w).alloc (.cells #[] 5)))
    go_enter Try.func35, Try.ntmps35
    go_wp2_with (at_builtin; refine wpList_appendB rfl _ _ rfl w.heap.size (.slice (some ⟨w.heap.size, 0, none⟩) 0 0) [] rfl hown.out _ x rfl HX2.out (by simp; omega) (by simp) ?_; intro v' w3 hown2 hgr hqq; obtain ⟨va2, vc2, rfl, _, _⟩ := row_form hown2; have HO := Lib.hid (And.intro hown2 hgr); clear hown2 hgr hqq)
    go_ret
    refine ⟨_, rfl, by simpa using HO.out.1, ?_⟩
    have h1 : Below w.heap.size w (w.alloc (.cells #[] 5)) := (Grew.refl w).alloc _
    exact h1.grown HO.out.2 (by simp) (fun k hk => by cases hk; exact Nat.le_refl _)

theorem bytes_any {B : Nat} {w : World} {p : Nat} {o : Option Nat} {l : List UInt8} {most e : Int} (h : BufAt B w p o l most e) (hl : l.length ≤ 1099511627776) :
    Calls Try.prog 13 #[bptr p] w fun r w' => ∃ v', r = .returned (.tuple #[v', .int .i64 e]) ∧ w'.ownsRow w.heap.size 5 1 v' (if e = 0 then l else []).length (Lib.byteCells (if e = 0 then l else [])) ∧ Grew w w' := by
  have HB := Lib.hid h
  obtain ⟨hBp, v, h1, h2, h3, h4⟩ := h
  obtain ⟨c0, c1, c2, c3⟩ := four_cells h1
  obtain ⟨va, vc, rfl, hcap, hnil⟩ := row_form h2
  have HX := Lib.hid (BytesAt.of_own h2)
  clear h1 h2 h3 h4
  go_enter Try.func13, Try.ntmps13
  go_wp2_with fail
  refine (err_any HB.out).mono ?_
  rintro r w' ⟨rfl, rfl⟩
  by_cases he : e = 0
  · subst he
    go_wp2_with fail
    refine (clone_any _ _ l HX.out hl).mono ?_
    rintro r w3 ⟨v', rfl, ho, hg⟩
    have HO := Lib.hid (And.intro ho hg)
    clear ho hg
    go_wp2
    go_ret2
    exact ⟨_, rfl, HO.out⟩
  · go_wp2
    go_ret2
    exact ⟨_, rfl, World.ownsRow_nil _ _ _ _, Grew.refl _⟩

end Go.Proofs.Ytajpbclcfjljnaa

/-
  The reference buffer: fail, put, Cut, Bytes.
-/
namespace Go.Proofs.Ytajpbclcfjljnaa
open Go Go.ChangeShapes Go.WideShapes Go.ChangeAt Go.RowKit Go.Joins
set_option linter.unusedVariables false
set_option linter.unusedSimpArgs false

theorem three_cells {w : World} {p : Nat} {a b c : Value} {t : TypeId} (h : w.heap[p]? = some (.cells #[a, b, c] t (0, 0))) :
    w.cell? ⟨p, 0, none⟩ = some a ∧ w.cell? ⟨p, 1, none⟩ = some b ∧ w.cell? ⟨p, 2, none⟩ = some c :=
  ⟨by rw [cell_of_row w p 0 _ _ _ h]; rfl, by rw [cell_of_row w p 1 _ _ _ h]; rfl, by rw [cell_of_row w p 2 _ _ _ h]; rfl⟩
theorem heap_set3 {w : World} {p : Nat} {a b c : Value} {t : TypeId} (h : w.heap[p]? = some (.cells #[a, b, c] t (0, 0))) (v : Value) :
    (w.setCell ⟨p, 2, none⟩ v).heap[p]? = some (.cells #[a, b, v] t (0, 0)) ∧ (w.setCell ⟨p, 0, none⟩ v).heap[p]? = some (.cells #[v, b, c] t (0, 0)) :=
  ⟨by have := heap_setCell_same w p 2 _ _ v h; simpa using this, by have := heap_setCell_same w p 0 _ _ v h; simpa using this⟩
end Go.Proofs.Ytajpbclcfjljnaa

/-
  The reference buffer: the copy of bytes, Cut, Bytes.
-/
namespace Go.Proofs.Ytajpbclcfjljnaa
open Go Go.ChangeShapes Go.WideShapes Go.ChangeAt Go.RowKit Go.Joins
set_option linter.unusedVariables false
set_option linter.unusedSimpArgs false

theorem own_base {w : World} {B B' : Nat} {t : TypeId} {v : Value} {n : Nat} {xs : List Value} (h : w.ownsRow B t 1 v n xs) (hb : B' ≤ B) : w.ownsRow B' t 1 v n xs := by
  obtain ⟨h1, h2⟩ := h
  refine ⟨h1, ?_⟩
  rcases h2 with h2 | ⟨g, cap, cur, hv, hg, r⟩
  · exact .inl h2
  · exact .inr ⟨g, cap, cur, hv, by omega, r⟩
end Go.Proofs.Ytajpbclcfjljnaa

/-
  Widths: width.Code, the reference's width, le.is, le.fits.
-/
namespace Go.Proofs.Ytajpbclcfjljnaa
open Go Go.ChangeShapes Go.WideShapes Go.ChangeAt Go.RowKit Go.Joins
set_option linter.unusedVariables false
set_option linter.unusedSimpArgs false

def isW (w : Int) : Bool := w == 1 || w == 2 || w == 4 || w == 8
theorem leis_any (x : Int) (w : World) :
    Calls Try.prog 63 #[.int .i64 x] w fun r w' => r = .returned (.bool (isW x)) ∧ w' = w := by
  go_enter Try.func63, Try.ntmps63
  by_cases h1 : x = 1
  · subst h1; go_wp2; go_ret; exact ⟨rfl, rfl⟩
  by_cases h2 : x = 2
  · subst h2; go_wp2; go_ret; exact ⟨rfl, rfl⟩
  by_cases h4 : x = 4
  · subst h4; go_wp2; go_ret; exact ⟨rfl, rfl⟩
  by_cases h8 : x = 8
  · subst h8; go_wp2; go_ret; exact ⟨rfl, rfl⟩
  go_wp2
  go_ret
  refine ⟨?_, rfl⟩
  simp [isW, h1, h2, h4, h8]

def codeE (x : Int) : Int := if isW x then 0 else 2
theorem code_any (x : Int) (w : World) :
    Calls Try.prog 45 #[.int .i64 x] w fun r w' => (∃ c, r = .returned (.tuple #[.int .i64 c, .int .i64 (codeE x)])) ∧ w' = w := by
  have hstep : ∀ k : Nat, (∀ j : Nat, j < k → x ≠ 2 ^ j) → x ≠ 2 ^ k → ∀ j : Nat, j < k + 1 → x ≠ 2 ^ j := by
    intro k h1 h2 j hj
    rcases (by omega : j < k ∨ j = k) with h | rfl
    · exact h1 j h
    · exact h2
  go_enter Try.func45, Try.ntmps45
  go_wp2_with fail
  go_loopw [5] (fun i wr => wr = w ∧ ∃ k : Nat, k ≤ 4 ∧ i = .int .i64 k ∧ Hid (∀ j : Nat, j < k → x ≠ 2 ^ j)) (fun i _ => 4 - (intOf i).toNat)
  case atStart => exact ⟨rfl, 0, by omega, rfl, fun j hj => by omega⟩
  case round =>
    obtain ⟨rfl, k, hk, rfl, HN⟩ := hrel
    by_cases hlt : k < 4
    · obtain rfl | rfl | rfl | rfl : k = 0 ∨ k = 1 ∨ k = 2 ∨ k = 3 := by omega
      · by_cases hx : x = 1
        · subst hx
          go_wp2
          go_ret2
          exact ⟨⟨_, rfl⟩, rfl⟩
        · go_wp2_with fail
          go_roundw
          case rel => exact ⟨trivial, 1, by omega, by go_num, hstep _ HN.out (by simpa using hx)⟩
          case measure => simp [intOf]
      · by_cases hx : x = 2
        · subst hx
          go_wp2
          go_ret2
          exact ⟨⟨_, rfl⟩, rfl⟩
        · go_wp2_with fail
          go_roundw
          case rel => exact ⟨trivial, 2, by omega, by go_num, hstep _ HN.out (by simpa using hx)⟩
          case measure => simp [intOf]
      · by_cases hx : x = 4
        · subst hx
          go_wp2
          go_ret2
          exact ⟨⟨_, rfl⟩, rfl⟩
        · go_wp2_with fail
          go_roundw
          case rel => exact ⟨trivial, 3, by omega, by go_num, hstep _ HN.out (by simpa using hx)⟩
          case measure => simp [intOf]
      · by_cases hx : x = 8
        · subst hx
          go_wp2
          go_ret2
          exact ⟨⟨_, rfl⟩, rfl⟩
        · go_wp2_with fail
          go_roundw
          case rel => exact ⟨trivial, 4, by omega, by go_num, hstep _ HN.out (by simpa using hx)⟩
          case measure => simp [intOf]
    · have e : k = 4 := by omega
      subst e
      have HX : Hid (codeE x = 2) := by
        show codeE x = 2
        have a0 := HN.out 0 (by omega)
        have a1 := HN.out 1 (by omega)
        have a2 := HN.out 2 (by omega)
        have a3 := HN.out 3 (by omega)
        simp at a0 a1 a2 a3
        simp [codeE, isW, a0, a1, a2, a3]
      go_wp2
      go_ret2
      exact ⟨⟨0, by rw [HX.out]; rfl⟩, rfl⟩

end Go.Proofs.Ytajpbclcfjljnaa

/-
  Plain lemma, no program: as in Region; but the last operation, which waits for all others, may turn the world as it likes. Conditions: the dependency table passes a closed check.
-/
namespace Go.Proofs.Ytajpbclcfjljnaa
set_option linter.unusedSimpArgs false
set_option linter.unusedVariables false
open Go Go.RowKit

section
variable {P : Program} {ops : Array Oper}

/-- Each operation but the last has one that waits for it. -/
def sinkOK (ops : Array Oper) : Bool :=
  (List.range (ops.size - 1)).all fun j => (List.range ops.size).any fun k => decide (j < k) && match ops[k]? with | some o => o.after.any fun e => Region.binds .any e && e.on == j | none => false

theorem wpAny_of_factsL {R : World → World → Prop} {D : Array (List Nat)} {Φ : Nat → Value → World → Prop} {a0 : Act} {w0 : World} {Q : Exit → Act → World → Prop}
    (hRt : ∀ {a b c : World}, R a b → R b c → R a c) (hchk : factsOK ops D = true) (hst : ∀ j v w w', R w w' → Φ j v w → Φ j v w') (hrr : ∀ w, R w w)
    (hop : ∀ i o, i + 1 < ops.size → ops[i]? = some o → opWord P ops R D Φ a0 w0 i o) (hpos : 0 < ops.size) (hsink : sinkOK ops = true)
    (hfin : ∀ o, ops[ops.size - 1]? = some o → ∀ y w, R w0 w → (∀ j, j + 1 < ops.size → Φ j (y j) w) → ∀ a, a = fillL y (canonL ops D (ops.size - 1)) a0 →
      if Region.wanted o (yielded ops a.tmps) then o.wp P a w (fun a' w' => Q .normal a' w') (fun _ _ _ => False) else Q .normal (a.put o.dst undef) w) :
    ∀ (fuel : Nat) (listed : Array Bool) (a : Act) (w : World) (y : Nat → Value), ((List.range ops.size).filter fun j => !listed.getD j true).length ≤ fuel →
      InvF ops R D Φ a0 w0 listed a w y → (∀ j o, ops[j]? = some o → listed.getD j false = true → ∀ e ∈ o.after, Region.binds .any e = true → listed.getD e.on false = true) → listed.getD (ops.size - 1) true = false → wpAny P .any ops Q fuel listed a w := by
  simp only [factsOK, Bool.and_eq_true, List.all_eq_true, List.mem_range] at hchk
  obtain ⟨hkeys, hrows⟩ := hchk
  -- nothing ready: all has been listed
  have hall : ∀ (listed : Array Bool), listed.size = ops.size → Region.ready .any ops listed = [] → ∀ j, j < ops.size → listed.getD j false = true := by
    intro listed hs hnil j
    induction j using Nat.strongRecOn with
    | ind j ih =>
      intro hj
      cases hl : listed.getD j false with
      | true => rfl
      | false =>
        exfalso
        have hmem : j ∈ Region.ready .any ops listed := by
          rw [mem_ready]
          refine ⟨by rw [listed_cases (by omega)]; exact hl, ops[j], Array.getElem?_eq_getElem hj, fun e he hb => ?_⟩
          have hrow := hrows j hj
          rw [Array.getElem?_eq_getElem hj] at hrow
          simp only [Bool.and_eq_true, List.all_eq_true, decide_eq_true_eq] at hrow
          have hlt := hrow.1 e.on (List.mem_map.2 ⟨e, List.mem_filter.2 ⟨by simpa using he, hb⟩, rfl⟩)
          exact ih e.on hlt (by omega)
        rw [hnil] at hmem
        cases hmem
  have hdone : ∀ (listed : Array Bool) (a : Act) (w : World) (y : Nat → Value), InvF ops R D Φ a0 w0 listed a w y → listed.getD (ops.size - 1) true = false → Region.ready .any ops listed = [] → Q .normal a w := by
    intro listed a w y hI hl hnil
    have := hall listed hI.size hnil (ops.size - 1) (by omega)
    rw [← listed_cases (by rw [hI.size]; omega), hl] at this
    cases this
  intro fuel
  induction fuel with
  | zero =>
    intro listed a w y hlen hI hE hL
    have hnil : Region.ready .any ops listed = [] := by
      have h0 : ((List.range ops.size).filter fun j => !listed.getD j true) = [] := List.length_eq_zero_iff.1 (by omega)
      refine List.eq_nil_iff_forall_not_mem.2 fun j hj => ?_
      have hj' := mem_ready.1 hj
      have : j ∈ ((List.range ops.size).filter fun j => !listed.getD j true) := by
        obtain ⟨hl, o, ho, _⟩ := hj'
        exact List.mem_filter.2 ⟨List.mem_range.2 (Array.getElem?_eq_some_iff.1 ho).1, by simp [hl]⟩
      rw [h0] at this
      cases this
    exact ⟨hnil, hdone listed a w y hI hL hnil⟩
  | succ fuel ih =>
    intro listed a w y hlen hI hE hL
    refine ⟨hdone listed a w y hI hL, fun i hi => ?_⟩
    obtain ⟨hun, o, ho, hedges⟩ := mem_ready.1 hi
    have hilt : i < ops.size := (Array.getElem?_eq_some_iff.1 ho).1
    have hunf : listed.getD i false = false := by rw [← listed_cases (by rw [hI.size]; exact hilt)]; exact hun
    have hrow := hrows i hilt
    rw [ho] at hrow
    simp only [Bool.and_eq_true, List.all_eq_true, decide_eq_true_eq, List.any_eq_true, Bool.or_eq_true, beq_iff_eq, List.contains_iff_mem] at hrow
    -- what i waits for has been listed
    have hD : ∀ k ∈ D.getD i [], listed.getD k false = true := by
      intro k hk
      obtain ⟨e, he, hek⟩ := hrow.2 k hk
      obtain ⟨ed, hed, rfl⟩ := List.mem_map.1 he
      obtain ⟨hed1, hed2⟩ := List.mem_filter.1 hed
      have hl := hedges ed (by simpa using hed1) hed2
      rcases hek with rfl | hek
      · exact hl
      · exact hI.closed _ hl k hek
    have hcan : fillL y (canonL ops D i) a0 = a := by
      rw [hI.act]
      refine fillL_filter y _ _ a0 hkeys ?_
      rintro ⟨d, j⟩ hq hp
      simp only [Bool.not_eq_false', Bool.or_eq_true, beq_iff_eq] at hp
      have hdst := mem_pairsOf.1 hq
      refine hI.open_ j d ?_ hdst
      rcases hp with rfl | hw
      · exact hun
      · have hjlt : j < listed.size := by
          rw [hI.size]
          rcases Nat.lt_or_ge j ops.size with h' | h'
          · exact h'
          · rw [Array.getElem?_eq_none h'] at hdst; cases hdst
        rw [listed_cases hjlt]
        cases hl : listed.getD j false with
        | false => rfl
        | true =>
          have := hI.closed j hl i (by simpa [waits] using hw)
          rw [hunf] at this
          cases this
    by_cases hlast : i = ops.size - 1
    · -- the last: all others have been listed
      subst hlast
      have hothers : ∀ d j, ops.size - 1 - j = d → j + 1 < ops.size → listed.getD j false = true := by
        intro d
        induction d using Nat.strongRecOn with
        | ind d ihd =>
          intro j hd hj
          have h1 := List.all_eq_true.1 hsink j (List.mem_range.2 (by omega))
          obtain ⟨k, hk, hk2⟩ := List.any_eq_true.1 h1
          simp only [Bool.and_eq_true, decide_eq_true_eq] at hk2
          have hkn := List.mem_range.1 hk
          obtain ⟨hjk, hwt⟩ := hk2
          cases hok : ops[k]? with
          | none => simp [hok] at hwt
          | some ok =>
            simp only [hok, Array.any_eq_true'] at hwt
            obtain ⟨e, he, hb⟩ := hwt
            simp only [Bool.and_eq_true, beq_iff_eq] at hb
            rw [← hb.2]
            by_cases hkl : k = ops.size - 1
            · subst hkl
              rw [ho] at hok; cases hok
              exact hedges e he hb.1
            · exact hE k ok hok (ihd (ops.size - 1 - k) (by omega) k rfl (by omega)) e he hb.1
      have hfl := hfin o ho y w hI.grown (fun j hj => hI.facts j (hothers _ j rfl hj)) a hcan.symm
      have hend : ∀ v w', Q .normal v w' → wpAny P .any ops Q fuel (listed.setIfInBounds (ops.size - 1) true) v w' := by
        intro v w' hq
        have hnil : Region.ready .any ops (listed.setIfInBounds (ops.size - 1) true) = [] := by
          refine List.eq_nil_iff_forall_not_mem.2 fun j hj => ?_
          obtain ⟨hl, o', ho', _⟩ := mem_ready.1 hj
          have hjlt : j < ops.size := (Array.getElem?_eq_some_iff.1 ho').1
          by_cases hjl : ops.size - 1 = j
          · subst hjl
            have h2 : ops.size - 1 < listed.size := by rw [hI.size]; exact hilt
            simp [h2] at hl
          · rw [getD_set_ne true hjl, listed_cases (by rw [hI.size]; exact hjlt), hothers _ j rfl (by omega)] at hl
            cases hl
        cases fuel with
        | zero => exact ⟨hnil, hq⟩
        | succ f => exact ⟨fun _ => hq, fun j hj => by rw [hnil] at hj; cases hj⟩
      unfold wpOp
      simp only [ho]
      split at hfl
      · rename_i hwa
        rw [if_pos hwa]
        exact .inl (wp_exit (Oper.wp_mono (fun a' w' hq => hend a' w' hq) hfl))
      · rename_i hwa
        rw [if_neg hwa]
        exact hend _ _ hfl
    have hw := hop i o (by omega) ho y w hI.grown (fun j hj => hI.facts j (hD j hj)) (fun a' w' => ∃ v, a' = a.put o.dst v ∧ R w w' ∧ Φ i v w')
    rw [hcan] at hw
    have hlen' : ((List.range ops.size).filter fun j => !(listed.setIfInBounds i true).getD j true).length ≤ fuel := by
      have : ((List.range ops.size).filter fun j => !(listed.setIfInBounds i true).getD j true).length < ((List.range ops.size).filter fun j => !listed.getD j true).length := by
        refine filter_lt _ i (fun j hj => ?_) (List.mem_range.2 hilt) (by rw [hun]; rfl) ?_
        · by_cases hij : i = j
          · subst hij
            have h2 : i < listed.size := by rw [hI.size]; exact hilt
            simp [h2] at hj
          · rw [getD_set_ne true hij] at hj; exact hj
        · have h2 : i < listed.size := by rw [hI.size]; exact hilt
          simp [h2]
      omega
    have hnext : ∀ v w', R w w' → Φ i v w' → wpAny P .any ops Q fuel (listed.setIfInBounds i true) (a.put o.dst v) w' := by
      intro v w' hr hφ
      have h2 : i < listed.size := by rw [hI.size]; exact hilt
      refine ih _ _ _ (fun k => if k = i then v else y k) hlen' ⟨by simp [hI.size], ?_, hRt hI.grown hr, ?_, ?_, ?_⟩ ?_ ?_
      · cases hd : o.dst with
        | none =>
          rw [hI.act]
          show fillL y (pairsOf ops) a0 = _
          refine fillL_congr _ _ _ _ fun p hp => ?_
          have := mem_pairsOf.1 (show (p.1, p.2) ∈ pairsOf ops from hp)
          have hne : p.2 ≠ i := fun he => by rw [he, ho] at this; simp [hd] at this
          simp [hne]
        | some d =>
          rw [hI.act, fillL_set y i v _ a0 d hkeys (mem_pairsOf.2 (by simp [ho, hd]))]
      · intro j hj
        by_cases hji : j = i
        · subst hji; simpa using hφ
        · simp only [hji, if_false]
          rw [getD_set_ne false (Ne.symm hji)] at hj
          exact hst j _ _ _ hr (hI.facts j hj)
      · intro j d hj hdst
        have hji : j ≠ i := fun he => by subst he; simp [h2] at hj
        simp only [hji, if_false]
        rw [getD_set_ne true (Ne.symm hji)] at hj
        exact hI.open_ j d hj hdst
      · intro j hj k hk
        by_cases hji : j = i
        · subst hji; exact getD_set_true (hD k hk)
        · rw [getD_set_ne false (Ne.symm hji)] at hj
          exact getD_set_true (hI.closed j hj k hk)
      · intro j oj hoj hj e he hb
        by_cases hji : j = i
        · subst hji
          rw [ho] at hoj; cases hoj
          exact getD_set_true (hedges e he hb)
        · rw [getD_set_ne false (Ne.symm hji)] at hj
          exact getD_set_true (hE j oj hoj hj e he hb)
      · rw [getD_set_ne true hlast]; exact hL
    unfold wpOp
    simp only [ho]
    have hw2 := hw (fun v w' hr hφ => ⟨v, rfl, hr, hφ⟩)
    split at hw2
    · rename_i hwa
      rw [if_pos hwa]
      refine .inl ?_
      have h3 : o.wp P a w (wpAny P .any ops Q fuel (listed.setIfInBounds i true)) (fun _ _ _ => False) :=
        Oper.wp_mono (fun a' w' ⟨v, he, hr, hφ⟩ => by subst he; exact hnext v w' hr hφ) hw2
      exact wp_exit h3
    · rename_i hwa
      rw [if_neg hwa]
      obtain ⟨v, he, hr, hφ⟩ := hw2
      rw [he]
      exact hnext v w hr hφ
where
  wp_exit {o : Oper} {a : Act} {w : World} {K : Act → World → Prop} {Q : Exit → Act → World → Prop} (h : o.wp P a w K (fun _ _ _ => False)) : o.wp P a w K Q := by
    unfold Oper.wp at *
    generalize (execOp a.eval o).run P w = r at *
    cases r with
    | ok n w' =>
      cases n <;> simp only [Oper.upon] at h ⊢
      case enter f args =>
        refine Calls.mono h fun e w'' he => ?_
        cases e with
        | returned v => exact he
        | panicked c => exact he.elim
        | outgrown => obtain ⟨_, _, hq⟩ := he; exact hq.elim
      all_goals exact h
    | halt x w' => cases x <;> simp only [Oper.upon] at h


def lastOf {α : Type} [Inhabited α] : List α → α
  | [] => default
  | [x] => x
  | _ :: y :: r => lastOf (y :: r)
theorem lastOf_eq {α : Type} [Inhabited α] : ∀ l : List α, lastOf l = l.getLast?.getD default
  | [] => rfl
  | [x] => rfl
  | _ :: y :: r => by rw [lastOf, lastOf_eq (y :: r), List.getLast?_cons_cons]

/-- **A region that draws its order, its last operation free; the tables written out.** -/
theorem wp_region_last {id : Nat} {a0 : Act} {w0 : World} {Q : Exit → Act → World → Prop} (R : World → World → Prop) (D : List (List Nat)) (C : List (List (Nat × Nat))) (Φ : List (Value → World → Prop)) (hm : P.follows .mixedOrders = true)
    (hRt : ∀ {a b c : World}, R a b → R b c → R a c) (hrr : ∀ w, R w w) (hd : R w0 w0.drew) (hchk : (tablesOK ops D C (pairsOf ops) && sinkOK ops && decide (0 < ops.size)) = true) (hst : stL R Φ)
    (hlen : Φ.length + 1 = ops.size)
    (hop : allW P ops R Φ a0 w0 0 ops.toList.dropLast D C)
    (hfin : ∀ y w, R w0 w → factsH y w 0 Φ → ∀ K : Act → World → Prop, (∀ a' w', Q .normal a' w' → K a' w') →
      if Region.wanted (lastOf ops.toList) (yielded ops (fillL y (lastOf C) a0).tmps) then (lastOf ops.toList).wp P (fillL y (lastOf C) a0) w K (fun _ _ _ => False) else K ((fillL y (lastOf C) a0).put (lastOf ops.toList).dst undef) w)
    (hCl : C.length = ops.size) : (Code.region id ops true).wp P Q a0 w0 := by
  simp only [Bool.and_eq_true, decide_eq_true_eq] at hchk
  obtain ⟨⟨hchk, hsink⟩, hpos⟩ := hchk
  simp only [tablesOK, Bool.and_eq_true, decide_eq_true_eq, List.all_eq_true, List.mem_range] at hchk
  obtain ⟨⟨h1, h2⟩, h3⟩ := hchk
  refine wp_region_any hm ?_
  have hwords := allW_words (P := P) (R := R) (Φ := Φ) (a0 := a0) (w0 := w0) D C h3
  refine wpAny_of_factsL (R := R) (D := D.toArray) (Φ := fun j => Φ.getD j (fun _ _ => True)) (a0 := a0) (w0 := w0) hRt h1 ?_ hrr (fun i o hi ho => ?_) hpos hsink ?_ ops.size _ a0 _ (fun j => match (ops[j]?).bind (·.dst) with | some d => a0.tmps.getD d undef | none => undef) ?_ ⟨by simp, ?_, hd, ?_, ?_, ?_⟩ ?_ ?_
  · intro j v w w' hr hφ
    rcases Nat.lt_or_ge j Φ.length with hj | hj
    · have e : Φ.getD j (fun _ _ => True) = Φ[j] := by simp [List.getD_eq_getElem?_getD, hj]
      simp only [e] at hφ ⊢
      exact stL_mem Φ hst _ (List.getElem_mem hj) v w w' hr hφ
    · have e : Φ.getD j (fun _ _ => True) = fun _ _ => True := by simp [List.getD_eq_getElem?_getD, hj]
      simp only [e]
  · have hd2 := allW_dropLast D C h3 ops.toList.dropLast 0 D C (by simp) (by simp) (by simp) hop
    have := allWords_get _ 0 i o hd2 (by rw [List.getElem?_dropLast]; simp; exact ⟨by omega, ho⟩)
    simpa using this
  · intro o ho y w hr hf a ha
    subst ha
    have hl : ops.toList.getLast? = some o := by rw [List.getLast?_eq_getElem?]; simpa using ho
    have hc : lastOf C = canonL ops D.toArray (ops.size - 1) := by
      rw [lastOf_eq, ← h3 (ops.size - 1) (by omega), List.getLast?_eq_getElem?, List.getD_eq_getElem?_getD, hCl]; rfl
    rw [← hc]
    have ho2 : lastOf ops.toList = o := by rw [lastOf_eq, hl]; rfl
    rw [← ho2]
    exact hfin y w hr (factsH_of Φ 0 (by simp) (fun j h => hf j (by omega))) _ (fun _ _ h => h)
  · exact Nat.le_trans (List.length_filter_le _ _) (by simp)
  · symm
    have : ∀ (L : List (Nat × Nat)), (∀ p ∈ L, (ops[p.2]?).bind (·.dst) = some p.1) → fillL (fun j => match (ops[j]?).bind (·.dst) with | some d => a0.tmps.getD d undef | none => undef) L a0 = a0 := by
      intro L
      induction L with
      | nil => intro _; rfl
      | cons p L ih =>
        intro h
        obtain ⟨d, j⟩ := p
        have hd := h (d, j) (by simp)
        simp only at hd
        show fillL _ L (a0.put (some d) _) = a0
        simp only [hd]
        rw [put_self]
        exact ih (fun p hp => h p (by simp [hp]))
    exact this _ (fun p hp => mem_pairsOf.1 hp)
  · intro j hj
    have h : (Array.replicate ops.size false).getD j false = false := by
      simp [Array.getD]
    rw [h] at hj; cases hj
  · intro j d _ hdst
    simp only [hdst]
    exact put_self a0 d
  · intro j hj
    have h : (Array.replicate ops.size false).getD j false = false := by
      simp [Array.getD]
    rw [h] at hj; cases hj
  · intro j o _ hj
    have h : (Array.replicate ops.size false).getD j false = false := by
      simp [Array.getD]
    rw [h] at hj; cases hj
  · have h2 : ops.size - 1 < ops.size := by omega
    simp [Array.getD, h2]
where
  allW_dropLast {R : World → World → Prop} {Φ : List (Value → World → Prop)} {a0 : Act} {w0 : World} (D0 : List (List Nat)) (C0 : List (List (Nat × Nat))) (hC : ∀ i, i < ops.size → C0.getD i [] = canonL ops D0.toArray i) :
    ∀ (l : List Oper) (i : Nat) (D : List (List Nat)) (C : List (List (Nat × Nat))), i + l.length ≤ ops.size → (∀ k, D[k]? = D0[i + k]?) → (∀ k, C[k]? = C0[i + k]?) → allW P ops R Φ a0 w0 i l D C →
      allWords (opWord P ops R D0.toArray (fun j => Φ.getD j (fun _ _ => True)) a0 w0) i l := by
    intro l
    induction l with
    | nil => intros; trivial
    | cons o r ih =>
      intro i D C hl hD hC' h
      match D, C, h with
      | d :: ds, c :: cs, h =>
        obtain ⟨h1, h2⟩ := h
        refine ⟨?_, ih (i + 1) ds cs (by simp at hl; omega) (fun k => ?_) (fun k => ?_) h2⟩
        · have hd : D0.toArray.getD i [] = d := by
            have := hD 0
            simp at this
            simp [Array.getD_eq_getD_getElem?, ← this]
          have hc : canonL ops D0.toArray i = c := by
            rw [← hC i (by simp at hl; omega)]
            have := hC' 0
            simp at this
            simp [List.getD_eq_getElem?_getD, ← this]
          intro y w hR hj K hK
          rw [hd] at hj
          rw [hc] at hK ⊢
          exact h1 y w hR (depsH_of _ hj) K (fun a' v w' he hr hφ => by subst he; exact hK v w' hr hφ)
        · have := hD (k + 1)
          simp at this
          rw [this]; congr 1; omega
        · have := hC' (k + 1)
          simp at this
          rw [this]; congr 1; omega

end
theorem ite_yes {b : Bool} {p q : Prop} (hb : b = true) (h : p) : if b then p else q := by rw [if_pos hb]; exact h
theorem ite_no {b : Bool} {p q : Prop} (hb : b = false) (h : q) : if b then p else q := by rw [if_neg (by simp [hb])]; exact h
end Go.Proofs.Ytajpbclcfjljnaa

/-
  Plain: what the buffer's calls make of contents and error; what a call may turn, joined.
-/
namespace Go.Proofs.Ytajpbclcfjljnaa
open Go Go.ChangeShapes Go.WideShapes Go.ChangeAt Go.RowKit Go.Joins
set_option linter.unusedVariables false
set_option linter.unusedSimpArgs false

abbrev St := List UInt8 × Int
def zeros (n : Nat) : List UInt8 := List.replicate n 0
def padN (l : List UInt8) (x : Int) : Nat := ((x - (l.length : Int) % x) % x).toNat
def digB (n : Nat) (u : Nat) : List UInt8 := (List.range n).map fun i => UInt8.ofNat (u / 256 ^ i % 256)
def fitU (x : Int) (u : Int) : Bool := decide (u < 2 ^ (8 * x.toNat))
def putS (most : Int) (y : List UInt8) (s : St) : St := (putL s.1 y most s.2, putE s.1 y most s.2)
def failP (x : Int) (s : St) : St := (s.1, failS s.2 x)
def cutS (n : Int) (s : St) : St := (cutL s.1 n s.2, cutE s.1 n s.2)
def alignS (most x : Int) (s : St) : St := if isW x then putS most (zeros (padN s.1 x)) s else failP 2 s
def numS (most x u : Int) (s : St) : St := if isW x then (if fitU x u then putS most (digB x.toNat u.toNat) s else failP 10 s) else failP 2 s

theorem isW_cases {x : Int} (h : isW x = true) : x = 1 ∨ x = 2 ∨ x = 4 ∨ x = 8 := by
  simp [isW] at h; omega
theorem length_zeros (n : Nat) : (zeros n).length = n := by simp [zeros]
theorem length_digB (n u : Nat) : (digB n u).length = n := by simp [digB]
theorem padN_lt {l : List UInt8} {x : Int} (h : isW x = true) : (padN l x : Int) < x ∧ (padN l x : Int) = (x - (l.length : Int) % x) % x := by
  unfold padN
  rcases isW_cases h with rfl | rfl | rfl | rfl <;> omega
theorem putS_le {most : Int} {y : List UInt8} {s : St} (h : (s.1.length : Int) ≤ most) : ((putS most y s).1.length : Int) ≤ most := by
  unfold putS putL
  dsimp only
  split
  · rename_i hh; rw [List.length_append]; omega
  · exact h
theorem cutS_le {most n : Int} {s : St} (h : (s.1.length : Int) ≤ most) : ((cutS n s).1.length : Int) ≤ most := by
  unfold cutS cutL
  dsimp only
  split
  · rw [List.length_take]; omega
  · exact h
theorem alignS_le {most x : Int} {s : St} (h : (s.1.length : Int) ≤ most) : ((alignS most x s).1.length : Int) ≤ most := by
  unfold alignS
  split
  · exact putS_le h
  · exact h
theorem numS_le {most x u : Int} {s : St} (h : (s.1.length : Int) ≤ most) : ((numS most x u s).1.length : Int) ≤ most := by
  unfold numS
  split
  · split
    · exact putS_le h
    · exact h
  · exact h

theorem moved_at (w : World) (g k : Nat) (v : Value) : Moved (fun j => j = g) w (w.setCell ⟨g, k, none⟩ v) := Moved.setCell (p := ⟨g, k, none⟩) (Moved.refl (fun j => j = g) w) (fun _ => rfl) v
/-- A call on the program's buffer: the buffer behind it. -/
def TurnB (B : Nat) (w w' : World) (p : Nat) (o : Option Nat) (most : Int) (s : St) : Prop := ∃ o', BufAt B w' p o' s.1 most s.2 ∧ Next w o o' ∧ Moved (Own2 p o) w w'
section
variable {B : Nat} {w w1 w2 : World} {p : Nat} {o : Option Nat} {most : Int} {s s1 s2 : St}
theorem TurnB.refl (h : BufAt B w p o s.1 most s.2) : TurnB B w w p o most s := ⟨o, h, Next.refl _ _, Moved.refl _ _⟩
theorem TurnB.after (hg : Grew w w1) (h : TurnB B w1 w2 p o most s) : TurnB B w w2 p o most s := by
  obtain ⟨o', h1, h2, h3⟩ := h
  exact ⟨o', h1, h2.earlier hg.size, (Moved.of_grew (S := Own2 p o) hg).trans' h3⟩
theorem TurnB.grew (h : TurnB B w w1 p o most s) (hg : Grew w1 w2) : TurnB B w w2 p o most s := by
  obtain ⟨o', h1, h2, h3⟩ := h
  exact ⟨o', h1.grew hg, h2, h3.grew hg⟩
theorem TurnB.trans (h : TurnB B w w1 p o most s1) (k : ∀ o1, BufAt B w1 p o1 s1.1 most s1.2 → TurnB B w1 w2 p o1 most s2) : TurnB B w w2 p o most s2 := by
  obtain ⟨o1, h1, h2, h3⟩ := h
  obtain ⟨o2, k1, k2, k3⟩ := k o1 h1
  exact ⟨o2, k1, h2.trans k2 h3.size, h3.own h2 k3⟩
end
theorem putT {sv : Value} {x : List UInt8} {B : Nat} {w : World} {p : Nat} {o : Option Nat} {most : Int} (s : St) (h : BufAt B w p o s.1 most s.2) (hB : B ≤ w.heap.size) (hl : (s.1.length : Int) ≤ most) (hm1 : most ≤ 1048576) (hx : BytesAt w sv x) (hxl : x.length ≤ 9223372036854775807) :
    Calls Try.prog 40 #[bptr p, sv] w fun r w' => r = .returned (.tuple #[]) ∧ TurnB B w w' p o most (putS most x s) :=
  (put_any sv x h hB (by omega) (by omega) hm1 hx hxl).mono fun r w' ⟨hr, o', h1, h2, h3⟩ => ⟨hr, o', h1, h2, h3⟩
theorem failT {B : Nat} {w : World} {p : Nat} {o : Option Nat} {most : Int} (s : St) (x : Int) (h : BufAt B w p o s.1 most s.2) :
    Calls Try.prog 39 #[bptr p, .int .i64 x] w fun r w' => r = .returned (.tuple #[]) ∧ TurnB B w w' p o most (failP x s) :=
  (fail_any x h).mono fun r w' ⟨hr, h1, h2⟩ => ⟨hr, o, h1, Next.refl _ _, h2⟩
theorem code_yes (x : Int) (w : World) (h : isW x = true) :
    Calls Try.prog 45 #[.int .i64 x] w fun r w' => (∃ c, r = .returned (.tuple #[.int .i64 c, .int .i64 0])) ∧ w' = w :=
  (code_any x w).mono fun r w' ⟨⟨c, hc⟩, hw⟩ => ⟨⟨c, by rw [hc, codeE, if_pos h]⟩, hw⟩
theorem code_no (x : Int) (w : World) (h : isW x = false) :
    Calls Try.prog 45 #[.int .i64 x] w fun r w' => (∃ c, r = .returned (.tuple #[.int .i64 c, .int .i64 2])) ∧ w' = w :=
  (code_any x w).mono fun r w' ⟨⟨c, hc⟩, hw⟩ => ⟨⟨c, by rw [hc, codeE, if_neg (by simp [h])]⟩, hw⟩

/-- with: the closure is called if x is a width. -/
theorem with_any {B : Nat} {w : World} {p : Nat} {o : Option Nat} {most : Int} (s : St) (x : Int) (k : Nat) (cap : Array Value) (h : BufAt B w p o s.1 most s.2) (s' : St) (hf : isW x = false → s' = failP 2 s) (he : ∀ w, (callFunc k cap).run Try.prog w = .ok (.enter k cap) w)
    (hdo : isW x = true → Calls Try.prog k cap w fun r w' => r = .returned (.tuple #[]) ∧ TurnB B w w' p o most s') :
    Calls Try.prog 51 #[bptr p, .int .i64 x, .func (.func k) #[] cap] w fun r w' => r = .returned (.tuple #[]) ∧ TurnB B w w' p o most s' := by
  have HB := Lib.hid h
  have HD := Lib.hid hdo
  have HF := Lib.hid hf
  clear h hdo hf
  go_enter Try.func51, Try.ntmps51
  by_cases hx : isW x = true
  · have HX := Lib.hid hx
    clear hx
    go_wp2_with fail
    refine (code_yes x _ HX.out).mono ?_
    rintro r w' ⟨⟨c, rfl⟩, rfl⟩
    go_wp2_with fail
    refine (HD.out HX.out).mono ?_
    rintro r w2 ⟨rfl, ht⟩
    have HT := Lib.hid ht
    clear ht
    go_wp2
    go_end0
    exact ⟨rfl, HT.out⟩
  · have HX := Lib.hid (show isW x = false by simpa using hx)
    clear hx
    go_wp2_with fail
    refine (code_no x _ HX.out).mono ?_
    rintro r w' ⟨⟨c, rfl⟩, rfl⟩
    go_wp2_with fail
    refine (failT s 2 HB.out).mono ?_
    rintro r w2 ⟨rfl, ht⟩
    have HT := Lib.hid ht
    clear ht
    go_wp2
    refine bodyPost_ret (results_none rfl _ _ _) rfl ?_
    exact ⟨rfl, by rw [HF.out HX.out]; exact HT.out⟩
end Go.Proofs.Ytajpbclcfjljnaa

/-
  Small helpers: EqBytes, SpoilBytes, Short, Bring, New, the reference's New.
-/
namespace Go.Proofs.Ytajpbclcfjljnaa
open Go Go.ChangeShapes Go.WideShapes Go.ChangeAt Go.RowKit Go.Joins
set_option linter.unusedVariables false
set_option linter.unusedSimpArgs false

theorem str_of_bytes {w : World} {v : Value} {x : List UInt8} (h : BytesAt w v x) : (convert 36 9 v).run Try.prog w = .ok (.string ⟨x.toArray⟩) w := by
  obtain ⟨a, c, rfl, hc, hnil, hcell⟩ := h
  cases a with
  | none =>
    have h0 := hnil rfl
    subst h0
    have : x = [] := List.length_eq_zero_iff.1 (by omega)
    subst this
    exact run_convert_bytes_nil w 36 5 Try.underlying36 Try.underlying5 0 0 9 Try.underlying9
  | some ad =>
    refine run_convert_bytes_back w 36 9 5 ad c x Try.underlying36 Try.underlying5 Try.underlying9 fun j hj => ?_
    obtain ⟨b, off, e, hcc⟩ := hcell j x[j] (List.getElem?_eq_getElem hj)
    cases e
    have : (⟨b, off, none⟩ : Addr).add j = ⟨b, off + j, none⟩ := by
      unfold Addr.add
      split
      · rename_i h; subst h; rfl
      · rfl
    rw [this]; exact hcc
theorem eqBytes_any {w : World} (v u : Value) (x y : List UInt8) (hv : BytesAt w v x) (hu : BytesAt w u y) :
    Calls Try.prog 14 #[v, u] w fun r w' => r = .returned (.bool (decide (x = y))) ∧ w' = w := by
  have h1 := str_of_bytes hv
  have h2 := str_of_bytes hu
  obtain ⟨a, c, rfl, hc, hnil, _⟩ := hv
  obtain ⟨a2, c2, rfl, hc2, hnil2, _⟩ := hu
  clear hc hc2 hnil hnil2
  go_enter Try.func14, Try.ntmps14
  go_wp2
  go_ret
  refine ⟨ret_bool ?_, rfl⟩
  show (_ == _) = _
  rw [Bool.eq_iff_iff]
  simp
theorem bring_eq (i n : Int) (h : 0 < n) : (i.tmod n < 0 → i.tmod n + n = i % n) ∧ (¬ i.tmod n < 0 → i.tmod n = i % n) ∧ -n < i.tmod n ∧ i.tmod n < n := by
  have h1 := Int.emod_nonneg i (show n ≠ 0 by omega)
  have h2 := Int.emod_lt_of_pos i h
  rw [Int.tmod_eq_emod]
  by_cases hc : 0 ≤ i ∨ n ∣ i
  · rw [if_pos hc]
    refine ⟨fun h => ?_, fun _ => ?_, ?_, ?_⟩ <;> simp only [Int.ofNat_zero, Int.sub_zero] at * <;> omega
  · rw [if_neg hc]
    have h3 : (n.natAbs : Int) = n := by omega
    have h4 : i % n ≠ 0 := fun h => hc (.inr (Int.dvd_of_emod_eq_zero h))
    rw [h3]
    refine ⟨fun h => ?_, fun _ => ?_, ?_, ?_⟩ <;> omega
theorem bring_any (i n : Int) (w : World) (hn : 0 < n) (hn2 : n ≤ 1048577) : Calls Try.prog 7 #[.int .i64 i, .int .i64 n] w fun r w' => r = .returned (.int .i64 (i % n)) ∧ w' = w := by
  obtain ⟨b1, b2, b3, b4⟩ := bring_eq i n hn
  have B1 := Lib.hid b1
  have B2 := Lib.hid b2
  clear b1 b2
  go_enter Try.func7, Try.ntmps7
  go_wp2
  · go_ret
    refine ⟨ret_int ?_, rfl⟩
    exact B1.out (by assumption)
  · go_ret
    exact ⟨ret_int (B2.out (by assumption)), rfl⟩
def roomOf (most : Int) : Int := min (max most 0) 1048576
theorem new_any (most : Int) (w : World) : Calls Try.prog 17 #[.int .i64 most] w fun r w' => r = .returned (bptr w.heap.size) ∧ BufAt w.heap.size w' w.heap.size none [] (roomOf most) 0 ∧ Grew w w' ∧ w.heap.size < w'.heap.size := by
  have H : Hid (∀ m : Int, m = roomOf most → BufAt w.heap.size (w.alloc (.cells #[.bool true, .slice none 0 0, .int .i64 m, .int .i64 0] 75)) w.heap.size none [] (roomOf most) 0 ∧ Grew w (w.alloc (.cells #[.bool true, .slice none 0 0, .int .i64 m, .int .i64 0] 75)) ∧ w.heap.size < (w.alloc (.cells #[.bool true, .slice none 0 0, .int .i64 m, .int .i64 0] 75)).heap.size) := by
    rintro m rfl
    exact ⟨⟨Nat.le_refl _, _, heap_alloc_new _ _, World.ownsRow_nil _ _ _ _, rfl, by simp⟩, (Grew.refl w).alloc _, by simp⟩
  have HR : Hid ((most < 0 → 0 = roomOf most) ∧ (0 ≤ most → most ≤ 1048576 → most = roomOf most) ∧ (1048576 ≤ most → 1048576 = roomOf most)) := by
    unfold roomOf; exact ⟨by omega, by omega, by omega⟩
  generalize roomOf most = rm at *
  go_enter Try.func17, Try.ntmps17
  go_wp2
  all_goals
    go_ret
    refine ⟨rfl, H.out _ ?_⟩
    first | exact HR.out.1 (by omega) | exact HR.out.2.1 (by omega) (by omega) | exact HR.out.2.2 (by omega)
end Go.Proofs.Ytajpbclcfjljnaa

/-
  The reference buffer's Align, Num, Text; strings as bytes.
-/
namespace Go.Proofs.Ytajpbclcfjljnaa
open Go Go.ChangeShapes Go.WideShapes Go.ChangeAt Go.RowKit Go.Joins
set_option linter.unusedVariables false
set_option linter.unusedSimpArgs false

theorem one_byte (w : World) (z : Int) (b : UInt8) (h : z = b.toNat) : BytesAt (w.alloc (.cells #[.int .u8 z] 5)) (.slice (some ⟨w.heap.size, 0, none⟩) 1 1) [b] := by
  subst h
  refine ⟨_, 1, rfl, Nat.le_refl _, (fun h => by cases h), fun i c hc => ⟨_, _, rfl, ?_⟩⟩
  cases i with
  | zero =>
    simp at hc; subst hc
    rw [cell_of_row _ _ _ _ _ _ (heap_alloc_new _ _)]; rfl
  | succ i => simp at hc
theorem own_new {w w' : World} {B : Nat} {t : TypeId} {v : Value} {n : Nat} {xs : List Value} (h : w.ownsRow B t 1 v n xs) (hg : w.grownBy w' v.ownBlock) {W : World} (hW : Grew W w) (hB : W.heap.size ≤ B) : Grew W w' := by
  have h2 : Below W.heap.size W w := hW
  exact h2.grown hg hW.size (fun k hk => Nat.le_trans hB (World.ownsRow.lt h k hk).1)

theorem digB_snoc (k U : Nat) : digB k U ++ [UInt8.ofNat (U / 256 ^ k % 256)] = digB (k + 1) U := by simp [digB, List.range_succ]
/-- A slice of strings. -/
def StrsAt (w : World) (v : Value) (ss : List ByteArray) : Prop :=
  ∃ a c, v = .slice a ss.length c ∧ ∀ (i : Nat) (s : ByteArray), ss[i]? = some s → ∃ bl off, a = some ⟨bl, off, none⟩ ∧ w.cell? ⟨bl, off + i, none⟩ = some (.string s)
theorem StrsAt.grew {w w' : World} {v : Value} {x : List ByteArray} (h : StrsAt w v x) (hg : Grew w w') : StrsAt w' v x := by
  obtain ⟨a, c, h1, h4⟩ := h
  refine ⟨a, c, h1, fun i b hb => ?_⟩
  obtain ⟨bl, off, e, hc⟩ := h4 i b hb
  exact ⟨bl, off, e, hg.cell hc⟩
theorem StrsAt.form {w : World} {v : Value} {x : List ByteArray} (h : StrsAt w v x) : ∃ a c, v = .slice a x.length c ∧ (∀ (i : Nat) (s : ByteArray), x[i]? = some s → ∃ bl off, a = some ⟨bl, off, none⟩ ∧ w.cell? ⟨bl, off + i, none⟩ = some (.string s)) := h
def catS (ss : List ByteArray) : ByteArray := ss.foldl (· ++ ·) ByteArray.empty
def bytesS (ss : List ByteArray) : List UInt8 := ss.flatMap (·.data.toList)
def sizeS (ss : List ByteArray) : Nat := (ss.map (·.size)).sum
theorem catS_bytes (ss : List ByteArray) : (catS ss).data.toList = bytesS ss := by
  have : ∀ (ss : List ByteArray) (a : ByteArray), (ss.foldl (· ++ ·) a).data.toList = a.data.toList ++ bytesS ss := by
    intro ss
    induction ss with
    | nil => intro a; simp [bytesS]
    | cons s r ih => intro a; rw [List.foldl_cons, ih]; simp [bytesS]
  rw [catS, this]; rfl
theorem bytesS_length (ss : List ByteArray) : (bytesS ss).length = sizeS ss := by
  induction ss with
  | nil => rfl
  | cons s r ih =>
    have e1 : bytesS (s :: r) = s.data.toList ++ bytesS r := by simp [bytesS]
    have e2 : sizeS (s :: r) = s.size + sizeS r := by simp [sizeS]
    rw [e1, e2, List.length_append, ih]; rfl
theorem catS_size (ss : List ByteArray) : (catS ss).size = sizeS ss := by
  rw [← bytesS_length, ← catS_bytes]; rfl
theorem take_snocS (ss : List ByteArray) (k : Nat) (h : k < ss.length) : ss.take (k + 1) = ss.take k ++ [ss[k]] := by
  rw [List.take_succ_eq_append_getElem h]
theorem catS_snoc (ss : List ByteArray) (k : Nat) (h : k < ss.length) : catS (ss.take (k + 1)) = catS (ss.take k) ++ ss[k] := by
  rw [take_snocS ss k h, catS, List.foldl_append]; rfl
theorem bytesS_snoc (ss : List ByteArray) (k : Nat) (h : k < ss.length) : bytesS (ss.take (k + 1)) = bytesS (ss.take k) ++ ss[k].data.toList := by
  rw [take_snocS ss k h, bytesS, List.flatMap_append]; simp [bytesS]
theorem sizeS_snoc (ss : List ByteArray) (k : Nat) (h : k < ss.length) : sizeS (ss.take (k + 1)) = sizeS (ss.take k) + ss[k].size := by
  rw [take_snocS ss k h, sizeS, List.map_append, List.sum_append]; simp [sizeS]
theorem sizeS_take (ss : List ByteArray) (k : Nat) : sizeS (ss.take k) ≤ sizeS ss := by
  have : sizeS ss = sizeS (ss.take k) + sizeS (ss.drop k) := by
    conv => lhs; rw [← List.take_append_drop k ss]
    simp only [sizeS, List.map_append, List.sum_append]
  omega
theorem bytes_of_str (w : World) (s : ByteArray) (hs : s.size ≤ 1099511627776) :
    ∃ v w', (convert 9 36 (.string s)).run Try.prog w = .ok v w' ∧ BytesAt w' v s.data.toList ∧ Grew w w' := by
  have hr := run_bytes_of_string (P := Try.prog) w 9 36 5 s Try.underlying9 Try.underlying36 Try.underlying5
  refine ⟨_, _, hr, ?_, ((Grew.refl w).drew).alloc _⟩
  have hge := grownCap_ge w s.size 0 5
  have hsz : s.size = s.data.toList.length := rfl
  refine ⟨_, _, by rw [hsz], by rw [← hsz]; exact hge, (fun h => by cases h), fun i b hb => ⟨_, _, rfl, ?_⟩⟩
  obtain ⟨hi, he⟩ := List.getElem?_eq_some_iff.1 hb
  have hh : (w.drew.alloc (.cells (bytesRow s (grownCap w s.size 0 5)) 5 ((bytesRow s (grownCap w s.size 0 5)).size, (bytesRow s (grownCap w s.size 0 5)).size + 1))).heap[w.heap.size]? = some _ := heap_alloc_new w.drew _
  rw [cell_of_row _ w.heap.size _ _ _ _ hh, Nat.zero_add, bytesRow_at s _ i (by simpa using hi)]
  rw [← he]; rfl
end Go.Proofs.Ytajpbclcfjljnaa

/-
  The buffer's Align.
-/
namespace Go.Proofs.Ytajpbclcfjljnaa
open Go Go.ChangeShapes Go.WideShapes Go.ChangeAt Go.RowKit Go.Joins
set_option linter.unusedVariables false
set_option linter.unusedSimpArgs false

theorem make_zeros (w : World) (n : Nat) (hn : n ≤ 1099511627776) :
    ∃ w', (Instr.makeSlice 36 (.int .i64 (n : Int)) (.int .i64 (n : Int))).run Try.prog w = .ok (.slice (some ⟨w.heap.size, 0, none⟩) n n) w' ∧ BytesAt w' (.slice (some ⟨w.heap.size, 0, none⟩) n n) (zeros n) ∧ Grew w w' := by
  obtain ⟨i0, hi, hz0, hz1, hz2⟩ := byte_parts
  obtain ⟨w', hr, ho, hg⟩ := run_make_full (P := Try.prog) w w.heap.size 36 5 i0 (.int .u8 0) 1 Try.underlying36 hi hz0 hz1 .i64 .i64 n (by rw [hz2]; omega) (by unfold maxLen; omega) (Nat.le_refl _)
  refine ⟨w', hr, ?_, ⟨hg.os, hg.tape, hg.output, hg.size, fun k hk => hg.block k hk (by simp)⟩⟩
  have e : (madeCells (Value.int .u8 0).cells (n * 1)).toList = Lib.byteCells (zeros n) := by
    show (madeCells #[Value.int .u8 0] (n * 1)).toList = _
    rw [Nat.mul_one, toList_madeCells_one]
    simp [Lib.byteCells, zeros]
  rw [e] at ho
  have e2 : (zeros n).length = n := length_zeros n
  have := BytesAt.of_own (l := zeros n) (v := .slice (some ⟨w.heap.size, 0, none⟩) n n) (w := w') (B := w.heap.size) (t := 5) (by rw [e2]; exact ho)
  exact this
theorem wp_make_run {P : Program} (w : World) {o : Oper} {a : Act} {K : Act → World → Prop} {Q : Exit → Act → World → Prop} (t : TypeId) (l c : Operand)
    (ho : o.op = .makeSlice t l c) (vl vc : Value) (hl : a.eval l = vl) (hc : a.eval c = vc) (v' : Value) (w' : World) (hr : (Instr.makeSlice t vl vc).run P w = .ok v' w') (h : K (a.put o.dst v') w') : o.wp P a w K Q := by
  unfold Oper.wp execOp
  simp only [ho, Sem.run_bind, Sem.run_pure, Result.andThen_ok, hl, hc, hr, Sem.run_map, Functor.map]
  exact h
theorem wp_make_zeros {o : Oper} {a : Act} {K : Act → World → Prop} {Q : Exit → Act → World → Prop} (w : World) (l c : Operand) (ho : o.op = .makeSlice 36 l c) (n : Nat) (hl : a.eval l = .int .i64 n) (hc : a.eval c = .int .i64 n) (hn : n ≤ 1099511627776)
    (h : ∀ v w', BytesAt w' v (zeros n) → Grew w w' → K (a.put o.dst v) w') : o.wp Try.prog a w K Q := by
  obtain ⟨w3, hr, hv, hg⟩ := make_zeros w n hn
  exact wp_make_run w _ _ _ ho _ _ hl hc _ _ hr (h _ _ hv hg)
set_option maxRecDepth 100000 in
theorem alignc_any {B : Nat} {w : World} {p : Nat} {o : Option Nat} {most : Int} (s : St) (x : Int) (a b : Addr) (ca : w.cell? a = some (bptr p)) (cb : w.cell? b = some (.int .i64 x))
    (h : BufAt B w p o s.1 most s.2) (hB : B ≤ w.heap.size) (hl : (s.1.length : Int) ≤ most) (hm1 : most ≤ 1048576) (hx : isW x = true) :
    Calls Try.prog 52 #[.pointer (some a), .pointer (some b)] w fun r w' => r = .returned (.tuple #[]) ∧ TurnB B w w' p o most (alignS most x s) := by
  have HB := Lib.hid h
  have HX := Lib.hid hx
  have hx8 : 1 ≤ x ∧ x ≤ 8 := by rcases isW_cases hx with rfl | rfl | rfl | rfl <;> decide
  obtain ⟨x0, x1⟩ := hx8
  have hp := padN_lt (l := s.1) hx
  have hm0 : 0 ≤ (s.1.length : Int) % x := Int.emod_nonneg _ (by omega)
  have hm2 : (s.1.length : Int) % x < x := Int.emod_lt_of_pos _ (by omega)
  have HP := Lib.hid hp
  have hp1 := hp.1
  clear h hx hp
  have e1 : ((s.1.length : Int)).tmod x = (s.1.length : Int) % x := Int.tmod_eq_emod_of_nonneg (by omega)
  have e2 : (x - (s.1.length : Int) % x).tmod x = (padN s.1 x : Int) := by rw [Int.tmod_eq_emod_of_nonneg (by omega)]; exact HP.out.2.symm
  have e3 : IntKind.i64.wrap (x - (s.1.length : Int) % x) = x - (s.1.length : Int) % x := by rw [IntKind.wrap_i64]; omega
  have hx0 : ¬ (x = 0) := by omega
  go_enter Try.func52, Try.ntmps52
  refine wp_region_last Grew [[], [], [], [2], [], [3, 4], [1, 5], [], [6, 7], [8], [0, 9]] [[(3, 1), (4, 2), (5, 3), (6, 4), (7, 5), (8, 6), (9, 7), (10, 8), (11, 9)], [(2, 0), (4, 2), (5, 3), (6, 4), (7, 5), (9, 7), (10, 8), (11, 9), (12, 10)], [(2, 0), (3, 1), (6, 4), (7, 5), (8, 6), (9, 7), (10, 8), (11, 9), (12, 10)], [(2, 0), (3, 1), (4, 2), (6, 4), (8, 6), (9, 7), (10, 8), (11, 9), (12, 10)], [(2, 0), (3, 1), (4, 2), (5, 3), (8, 6), (9, 7), (10, 8), (11, 9), (12, 10)], [(2, 0), (3, 1), (4, 2), (5, 3), (6, 4), (9, 7), (10, 8), (11, 9), (12, 10)], [(2, 0), (3, 1), (4, 2), (5, 3), (6, 4), (7, 5), (9, 7), (11, 9), (12, 10)], [(2, 0), (3, 1), (4, 2), (5, 3), (6, 4), (7, 5), (8, 6), (11, 9), (12, 10)], [(2, 0), (3, 1), (4, 2), (5, 3), (6, 4), (7, 5), (8, 6), (9, 7), (12, 10)], [(2, 0), (3, 1), (4, 2), (5, 3), (6, 4), (7, 5), (8, 6), (9, 7), (10, 8)], [(2, 0), (3, 1), (4, 2), (5, 3), (6, 4), (7, 5), (8, 6), (9, 7), (10, 8), (11, 9)]]
    [Is (bptr p), Is (.int .i64 x), Is (bptr p), Is (.int .i64 (s.1.length : Int)), Is (.int .i64 x), Is (.int .i64 ((s.1.length : Int) % x)), Is (.int .i64 (x - (s.1.length : Int) % x)), Is (.int .i64 x), Is (.int .i64 (padN s.1 x : Int)), fun v w => BytesAt w v (zeros (padN s.1 x))]
    (by kernel_rfl) Grew.trans Grew.refl (Grew.refl _).drew (by kernel_rfl) ⟨is_st, is_st, is_st, is_st, is_st, is_st, is_st, is_st, is_st, fun _ _ _ hr h => BytesAt.grew h hr, trivial⟩ rfl ⟨?_, ?_, ?_, ?_, ?_, ?_, ?_, ?_, ?_, ?_, trivial⟩ ?_ rfl
  · intro y w2 hG hD K hK
    have dca := hG.cell ca
    have dcb := hG.cell cb
    simp only [fillL, Act.put, List.setIfInBounds_toArray, List.set_cons_zero, List.set_cons_succ, List.getD_cons_zero, List.getD_cons_succ, Is] at hK ⊢
    refine ite_yes (by rfl) ?_
    go_simp
    exact hK _ _ _ rfl (Grew.refl _) rfl
  · intro y w2 hG hD K hK
    have dca := hG.cell ca
    have dcb := hG.cell cb
    simp only [fillL, Act.put, List.setIfInBounds_toArray, List.set_cons_zero, List.set_cons_succ, List.getD_cons_zero, List.getD_cons_succ, Is] at hK ⊢
    refine ite_yes (by rfl) ?_
    go_simp
    exact hK _ _ _ rfl (Grew.refl _) rfl
  · intro y w2 hG hD K hK
    have dca := hG.cell ca
    have dcb := hG.cell cb
    simp only [fillL, Act.put, List.setIfInBounds_toArray, List.set_cons_zero, List.set_cons_succ, List.getD_cons_zero, List.getD_cons_succ, Is] at hK ⊢
    refine ite_yes (by rfl) ?_
    go_simp
    exact hK _ _ _ rfl (Grew.refl _) rfl
  · intro y w2 hG hD K hK
    simp only [depsH, List.getD_cons_zero, List.getD_cons_succ, Is, and_true] at hD
    have h2 := hD
    clear hD
    simp only [fillL, Act.put, List.setIfInBounds_toArray, List.set_cons_zero, List.set_cons_succ, List.getD_cons_zero, List.getD_cons_succ, Is] at hK ⊢
    rw [h2] at hK ⊢
    clear h2
    refine ite_yes (by rfl) ?_
    go_simp
    refine (len_any (HB.out.grew hG)).mono ?_
    rintro r w3 ⟨rfl, rfl⟩
    exact hK _ _ _ rfl (Grew.refl _) rfl
  · intro y w2 hG hD K hK
    have dca := hG.cell ca
    have dcb := hG.cell cb
    simp only [fillL, Act.put, List.setIfInBounds_toArray, List.set_cons_zero, List.set_cons_succ, List.getD_cons_zero, List.getD_cons_succ, Is] at hK ⊢
    refine ite_yes (by rfl) ?_
    go_simp
    exact hK _ _ _ rfl (Grew.refl _) rfl
  · intro y w2 hG hD K hK
    simp only [depsH, List.getD_cons_zero, List.getD_cons_succ, Is, and_true] at hD
    have h3 := hD.1
    have h4 := hD.2
    clear hD
    simp only [fillL, Act.put, List.setIfInBounds_toArray, List.set_cons_zero, List.set_cons_succ, List.getD_cons_zero, List.getD_cons_succ, Is] at hK ⊢
    rw [h3, h4] at hK ⊢
    clear h3 h4
    refine ite_yes (by rfl) ?_
    go_simp
    exact hK _ _ _ rfl (Grew.refl _) rfl
  · intro y w2 hG hD K hK
    simp only [depsH, List.getD_cons_zero, List.getD_cons_succ, Is, and_true] at hD
    have h1 := hD.1
    have h5 := hD.2
    clear hD
    simp only [fillL, Act.put, List.setIfInBounds_toArray, List.set_cons_zero, List.set_cons_succ, List.getD_cons_zero, List.getD_cons_succ, Is] at hK ⊢
    rw [h1, h5] at hK ⊢
    clear h1 h5
    refine ite_yes (by rfl) ?_
    go_simp
    exact hK _ _ _ rfl (Grew.refl _) rfl
  · intro y w2 hG hD K hK
    have dca := hG.cell ca
    have dcb := hG.cell cb
    simp only [fillL, Act.put, List.setIfInBounds_toArray, List.set_cons_zero, List.set_cons_succ, List.getD_cons_zero, List.getD_cons_succ, Is] at hK ⊢
    refine ite_yes (by rfl) ?_
    go_simp
    exact hK _ _ _ rfl (Grew.refl _) rfl
  · intro y w2 hG hD K hK
    simp only [depsH, List.getD_cons_zero, List.getD_cons_succ, Is, and_true] at hD
    have h6 := hD.1
    have h7 := hD.2
    clear hD
    simp only [fillL, Act.put, List.setIfInBounds_toArray, List.set_cons_zero, List.set_cons_succ, List.getD_cons_zero, List.getD_cons_succ, Is] at hK ⊢
    rw [h6, h7] at hK ⊢
    clear h6 h7
    refine ite_yes (by rfl) ?_
    go_simp
    exact hK _ _ _ rfl (Grew.refl _) rfl
  · intro y w2 hG hD K hK
    simp only [depsH, List.getD_cons_zero, List.getD_cons_succ, Is, and_true] at hD
    have h8 := hD
    clear hD
    simp only [fillL, Act.put, List.setIfInBounds_toArray, List.set_cons_zero, List.set_cons_succ, List.getD_cons_zero, List.getD_cons_succ, Is] at hK ⊢
    rw [h8] at hK ⊢
    clear h8
    refine ite_yes (by rfl) ?_
    refine wp_make_zeros w2 _ _ rfl (padN s.1 x) rfl rfl (by omega) ?_
    intro v w3 hv hg
    exact hK _ _ _ rfl hg hv
  · intro y w2 hG hF K hK
    simp only [factsH, Is, and_true, Nat.reduceAdd] at hF
    have h0 := hF.1
    have h1 := hF.2.1
    have h2 := hF.2.2.1
    have h3 := hF.2.2.2.1
    have h4 := hF.2.2.2.2.1
    have h5 := hF.2.2.2.2.2.1
    have h6 := hF.2.2.2.2.2.2.1
    have h7 := hF.2.2.2.2.2.2.2.1
    have h8 := hF.2.2.2.2.2.2.2.2.1
    have h9 := hF.2.2.2.2.2.2.2.2.2
    clear hF
    simp only [lastOf]
    simp only [fillL, Act.put, List.setIfInBounds_toArray, List.set_cons_zero, List.set_cons_succ, List.getD_cons_zero, List.getD_cons_succ, Is] at hK ⊢
    rw [h0, h1, h2, h3, h4, h5, h6, h7, h8]
    clear h0 h1 h2 h3 h4 h5 h6 h7 h8
    refine ite_yes (by rfl) ?_
    go_simp
    refine (putT s (HB.out.grew hG) (Nat.le_trans hB hG.size) hl hm1 h9 (by rw [length_zeros]; omega)).mono ?_
    rintro r w5 ⟨rfl, ht⟩
    refine hK _ _ ?_
    have HT := Lib.hid (TurnB.after hG ht)
    clear ht
    go_wp2
    go_end0
    exact ⟨rfl, by rw [alignS, if_pos HX.out]; exact HT.out⟩

/-- The buffer's Align. -/
theorem align_any {B : Nat} {w : World} {p : Nat} {o : Option Nat} {most : Int} (s : St) (x : Int) (h : BufAt B w p o s.1 most s.2) (hB : B ≤ w.heap.size) (hl : (s.1.length : Int) ≤ most) (hm1 : most ≤ 1048576) :
    Calls Try.prog 29 #[bptr p, .int .i64 x] w fun r w' => r = .returned (.tuple #[]) ∧ TurnB B w w' p o most (alignS most x s) := by
  have HB := Lib.hid h
  clear h
  go_enter Try.func29, Try.ntmps29
  go_wp2_with fail
  have G : Grew w ((w.alloc (.cells #[bptr p] 26)).alloc (.cells #[.int .i64 x] 3)) := ((Grew.refl w).alloc _).alloc _
  refine (with_any s x _ _ (HB.out.grew G) (alignS most x s) (fun hx => by rw [alignS, if_neg (by simp [hx])]) (fun _ => enters_of Try.func52 (by kernel_rfl) rfl _ _) (fun hx => alignc_any s x _ _ (by go_simp) (by go_simp) (HB.out.grew G) (Nat.le_trans hB G.size) hl hm1 hx)).mono ?_
  rintro r w5 ⟨rfl, ht⟩
  have HT := Lib.hid (TurnB.after G ht)
  clear ht G
  go_wp2
  go_end0
  exact ⟨rfl, HT.out⟩
end Go.Proofs.Ytajpbclcfjljnaa

/-
  The buffer's Text, with sum.
-/
namespace Go.Proofs.Ytajpbclcfjljnaa
open Go Go.ChangeShapes Go.WideShapes Go.ChangeAt Go.RowKit Go.Joins
set_option linter.unusedVariables false
set_option linter.unusedSimpArgs false

theorem sum_any (w : World) (lv : Value) (ss : List ByteArray) (hs : StrsAt w lv ss) (hsl : ss.length ≤ 1048576) (hss : sizeS ss ≤ 1073741824) :
    Calls Try.prog 38 #[lv] w fun r w' => r = .returned (.int .i64 (sizeS ss)) ∧ w' = w := by
  obtain ⟨a, c, rfl, hcell⟩ := hs.form
  have HC := Lib.hid hcell
  clear hs hcell
  go_enter Try.func38, Try.ntmps38
  go_wp2_with fail
  go_loopw [2, 4, 7] (fun t _ i wr => wr = w ∧ ∃ k : Nat, k ≤ ss.length ∧ i = .int .i64 k ∧ ∃ z : Nat, t = .int .i64 z ∧ Hid (z = sizeS (ss.take k))) (fun _ _ i _ => ss.length - (intOf i).toNat)
  case atStart => exact ⟨rfl, 0, Nat.zero_le _, rfl, 0, rfl, rfl⟩
  case round =>
    obtain ⟨rfl, k, hk, rfl, z, rfl, HZ⟩ := hrel
    have hz : z ≤ 1073741824 := by rw [HZ.out]; have := sizeS_take ss k; omega
    by_cases hlt : k < ss.length
    · obtain ⟨bl, off, rfl, hc⟩ := HC.out k ss[k] (List.getElem?_eq_getElem hlt)
      have hz2 : ss[k].size ≤ 1073741824 := by have := sizeS_snoc ss k hlt; have := sizeS_take ss (k + 1); omega
      have HN : Hid (z + ss[k].size = sizeS (ss.take (k + 1))) := by show _ = _; rw [sizeS_snoc ss k hlt, HZ.out]
      generalize ss[k] = sk at *
      go_wp2
      go_roundw
      case rel => exact ⟨trivial, k + 1, by omega, by go_num, z + sk.size, by go_num, HN⟩
      case measure => simp [intOf]; omega
    · have e : k = ss.length := by omega
      have HE : Hid (z = sizeS ss) := by show _ = _; rw [HZ.out, e, List.take_length]
      clear HZ e
      go_wp2
      go_ret
      exact ⟨by rw [← HE.out]; rfl, rfl⟩

/-- The buffer's Text. -/
theorem put_fit (most : Int) (l y : List UInt8) (hf : (l.length : Int) + y.length ≤ most) : putS most y (l, 0) = (l ++ y, 0) := by
  show (putL l y most 0, putE l y most 0) = _
  unfold putL putE
  have h1 : ((0 : Int) = 0 ∧ (y.length : Int) ≤ most - l.length) := ⟨rfl, by omega⟩
  have h2 : ¬ ((0 : Int) = 0 ∧ ¬ (y.length : Int) ≤ most - l.length) := fun h => h.2 (by omega)
  rw [if_pos h1, if_neg h2]
set_option maxRecDepth 100000 in
set_option maxHeartbeats 1000000 in
theorem text_any {B : Nat} {w : World} {p : Nat} {o : Option Nat} {most : Int} (s : St) (lv : Value) (ss : List ByteArray) (h : BufAt B w p o s.1 most s.2) (hB : B ≤ w.heap.size) (hl : (s.1.length : Int) ≤ most) (hm1 : most ≤ 1048576)
    (hs : StrsAt w lv ss) (hsl : ss.length ≤ 1048576) (hss : sizeS ss ≤ 1073741824) (hap : ∀ ad n c, lv = .slice (some ad) n c → ¬ Own2 p o ad.block) :
    Calls Try.prog 18 #[bptr p, lv] w fun r w' => r = .returned (.tuple #[]) ∧ TurnB B w w' p o most (putS most (bytesS ss) s) := by
  have HB := Lib.hid h
  have HS := Lib.hid hs
  obtain ⟨a, c, rfl, hcell⟩ := hs.form
  have HC := Lib.hid hcell
  have HA := Lib.hid hap
  have hb := h
  obtain ⟨_, v, h1, h2, _⟩ := hb
  obtain ⟨c0, c1, c2, c3⟩ := four_cells h1
  have hmm : IntKind.i64.wrap (most - (s.1.length : Int)) = most - (s.1.length : Int) := by rw [IntKind.wrap_i64]; omega
  clear h hs hcell h1 h2 hap
  go_enter Try.func18, Try.ntmps18
  go_wp2_with fail
  refine (err_any HB.out).mono ?_
  rintro r w' ⟨rfl, rfl⟩
  by_cases he : s.2 = 0
  · have HE := Lib.hid he
    rw [he] at c3 ⊢
    clear he
    by_cases hf : (sizeS ss : Int) ≤ most - s.1.length
    · have hdec : decide (most - (s.1.length : Int) < (sizeS ss : Int)) = false := by simp; omega
      have HSZ : Hid ((bytesS ss).length = sizeS ss) := bytesS_length ss
      go_wp2_with fail
      refine wp_region_tables Grew [[], [0], [], [2], [3], [4], [], [6], [5, 7], [1, 8]] [[(12, 2), (13, 3), (14, 4), (15, 5), (16, 6), (17, 7), (18, 8), (19, 9)], [(10, 0), (12, 2), (13, 3), (14, 4), (15, 5), (16, 6), (17, 7), (18, 8)], [(10, 0), (11, 1), (14, 4), (15, 5), (16, 6), (17, 7), (18, 8), (19, 9)], [(10, 0), (11, 1), (12, 2), (15, 5), (16, 6), (17, 7), (18, 8), (19, 9)], [(10, 0), (11, 1), (12, 2), (13, 3), (16, 6), (17, 7), (18, 8), (19, 9)], [(10, 0), (11, 1), (12, 2), (13, 3), (14, 4), (16, 6), (17, 7), (19, 9)], [(10, 0), (11, 1), (12, 2), (13, 3), (14, 4), (15, 5), (18, 8), (19, 9)], [(10, 0), (11, 1), (12, 2), (13, 3), (14, 4), (15, 5), (16, 6), (19, 9)], [(10, 0), (11, 1), (12, 2), (13, 3), (14, 4), (15, 5), (16, 6), (17, 7)], [(10, 0), (11, 1), (12, 2), (13, 3), (14, 4), (15, 5), (16, 6), (17, 7), (18, 8)]] [(10, 0), (11, 1), (12, 2), (13, 3), (14, 4), (15, 5), (16, 6), (17, 7), (18, 8), (19, 9)]
        [Is (.slice a ss.length c), Is (.int .i64 (sizeS ss : Int)), Is (bptr p), Is (bptr p), Is (.pointer (some ⟨p, 2, none⟩)), Is (.int .i64 most), Is (bptr p), Is (.int .i64 (s.1.length : Int)), Is (.int .i64 (most - (s.1.length : Int))), Is (.bool false)]
        (by kernel_rfl) Grew.trans Grew.refl (Grew.refl _).drew (by kernel_rfl) ⟨is_st, is_st, is_st, is_st, is_st, is_st, is_st, is_st, is_st, is_st, trivial⟩ ⟨?_, ?_, ?_, ?_, ?_, ?_, ?_, ?_, ?_, ?_, trivial⟩ rfl ?_
      · intro y w2 hG hD K hK
        simp only [fillL, Act.put, List.setIfInBounds_toArray, List.set_cons_zero, List.set_cons_succ, List.getD_cons_zero, List.getD_cons_succ, Is] at hK ⊢
        refine ite_yes (by rfl) ?_
        go_simp
        exact hK _ _ _ rfl (Grew.refl _) rfl
      · intro y w2 hG hD K hK
        simp only [depsH, List.getD_cons_zero, List.getD_cons_succ, Is, and_true] at hD
        have h0 := hD
        clear hD
        simp only [fillL, Act.put, List.setIfInBounds_toArray, List.set_cons_zero, List.set_cons_succ, List.getD_cons_zero, List.getD_cons_succ, Is] at hK ⊢
        rw [h0] at hK ⊢
        clear h0
        refine ite_yes (by rfl) ?_
        go_simp
        refine (sum_any w2 _ ss (HS.out.grew hG) hsl hss).mono ?_
        rintro r w3 ⟨rfl, rfl⟩
        exact hK _ _ _ rfl (Grew.refl _) rfl
      · intro y w2 hG hD K hK
        simp only [fillL, Act.put, List.setIfInBounds_toArray, List.set_cons_zero, List.set_cons_succ, List.getD_cons_zero, List.getD_cons_succ, Is] at hK ⊢
        refine ite_yes (by rfl) ?_
        go_simp
        exact hK _ _ _ rfl (Grew.refl _) rfl
      · intro y w2 hG hD K hK
        simp only [depsH, List.getD_cons_zero, List.getD_cons_succ, Is, and_true] at hD
        have h2 := hD
        clear hD
        simp only [fillL, Act.put, List.setIfInBounds_toArray, List.set_cons_zero, List.set_cons_succ, List.getD_cons_zero, List.getD_cons_succ, Is] at hK ⊢
        rw [h2] at hK ⊢
        clear h2
        refine ite_yes (by rfl) ?_
        go_simp
        exact hK _ _ _ rfl (Grew.refl _) rfl
      · intro y w2 hG hD K hK
        simp only [depsH, List.getD_cons_zero, List.getD_cons_succ, Is, and_true] at hD
        have h3 := hD
        clear hD
        simp only [fillL, Act.put, List.setIfInBounds_toArray, List.set_cons_zero, List.set_cons_succ, List.getD_cons_zero, List.getD_cons_succ, Is] at hK ⊢
        rw [h3] at hK ⊢
        clear h3
        refine ite_yes (by rfl) ?_
        go_simp
        exact hK _ _ _ rfl (Grew.refl _) rfl
      · intro y w2 hG hD K hK
        simp only [depsH, List.getD_cons_zero, List.getD_cons_succ, Is, and_true] at hD
        have h4 := hD
        clear hD
        have dc2 := hG.cell c2
        simp only [fillL, Act.put, List.setIfInBounds_toArray, List.set_cons_zero, List.set_cons_succ, List.getD_cons_zero, List.getD_cons_succ, Is] at hK ⊢
        rw [h4] at hK ⊢
        clear h4
        refine ite_yes (by rfl) ?_
        go_simp
        exact hK _ _ _ rfl (Grew.refl _) rfl
      · intro y w2 hG hD K hK
        simp only [fillL, Act.put, List.setIfInBounds_toArray, List.set_cons_zero, List.set_cons_succ, List.getD_cons_zero, List.getD_cons_succ, Is] at hK ⊢
        refine ite_yes (by rfl) ?_
        go_simp
        exact hK _ _ _ rfl (Grew.refl _) rfl
      · intro y w2 hG hD K hK
        simp only [depsH, List.getD_cons_zero, List.getD_cons_succ, Is, and_true] at hD
        have h6 := hD
        clear hD
        simp only [fillL, Act.put, List.setIfInBounds_toArray, List.set_cons_zero, List.set_cons_succ, List.getD_cons_zero, List.getD_cons_succ, Is] at hK ⊢
        rw [h6] at hK ⊢
        clear h6
        refine ite_yes (by rfl) ?_
        go_simp
        refine (len_any (HB.out.grew hG)).mono ?_
        rintro r w3 ⟨rfl, rfl⟩
        exact hK _ _ _ rfl (Grew.refl _) rfl
      · intro y w2 hG hD K hK
        simp only [depsH, List.getD_cons_zero, List.getD_cons_succ, Is, and_true] at hD
        have h5 := hD.1
        have h7 := hD.2
        clear hD
        simp only [fillL, Act.put, List.setIfInBounds_toArray, List.set_cons_zero, List.set_cons_succ, List.getD_cons_zero, List.getD_cons_succ, Is] at hK ⊢
        rw [h5, h7] at hK ⊢
        clear h5 h7
        refine ite_yes (by rfl) ?_
        go_simp
        exact hK _ _ _ rfl (Grew.refl _) rfl
      · intro y w2 hG hD K hK
        simp only [depsH, List.getD_cons_zero, List.getD_cons_succ, Is, and_true] at hD
        have h1 := hD.1
        have h8 := hD.2
        clear hD
        simp only [fillL, Act.put, List.setIfInBounds_toArray, List.set_cons_zero, List.set_cons_succ, List.getD_cons_zero, List.getD_cons_succ, Is] at hK ⊢
        rw [h1, h8] at hK ⊢
        clear h1 h8
        refine ite_yes (by rfl) ?_
        go_simp
        exact hK _ _ _ rfl (Grew.refl _) rfl
      · intro y w2 hG hF
        simp only [factsH, Is, and_true, Nat.reduceAdd] at hF
        have h0 := hF.1
        have h1 := hF.2.1
        have h2 := hF.2.2.1
        have h3 := hF.2.2.2.1
        have h4 := hF.2.2.2.2.1
        have h5 := hF.2.2.2.2.2.1
        have h6 := hF.2.2.2.2.2.2.1
        have h7 := hF.2.2.2.2.2.2.2.1
        have h8 := hF.2.2.2.2.2.2.2.2.1
        have h9 := hF.2.2.2.2.2.2.2.2.2
        clear hF
        simp only [fillL, Act.put, List.setIfInBounds_toArray, List.set_cons_zero, List.set_cons_succ, List.getD_cons_zero, List.getD_cons_succ, Is]
        rw [h0, h1, h2, h3, h4, h5, h6, h7, h8, h9]
        clear h0 h1 h2 h3 h4 h5 h6 h7 h8 h9
        clear c0 c1 c2 c3 hmm hdec
        go_wp2_with fail
        go_loopw [6, 26] (fun _ i wr => ∃ k : Nat, k ≤ ss.length ∧ i = .int .i64 k ∧ Hid (TurnB B w' wr p o most (s.1 ++ bytesS (ss.take k), 0))) (fun _ i _ => ss.length - (intOf i).toNat)
        case atStart =>
          refine ⟨0, Nat.zero_le _, rfl, ?_⟩
          show TurnB _ _ _ _ _ _ _
          refine TurnB.after hG (TurnB.refl ?_)
          have h5 := HB.out.grew hG
          rw [HE.out] at h5
          simpa [bytesS] using h5
        case round =>
          obtain ⟨k, hk, rfl, HW⟩ := hrel
          by_cases hlt : k < ss.length
          · obtain ⟨bl, off, rfl, hc0⟩ := HC.out k ss[k] (List.getElem?_eq_getElem hlt)
            have hc : wr.cell? ⟨bl, off + k, none⟩ = some (.string ss[k]) := by
              obtain ⟨o', _, _, hm⟩ := HW.out
              exact hm.cell hc0 (HA.out ⟨bl, off, none⟩ _ _ rfl)
            have hz2 : ss[k].size ≤ 1073741824 := by have := sizeS_snoc ss k hlt; have := sizeS_take ss (k + 1); omega
            obtain ⟨bv, w3, hr, hv, hg⟩ := bytes_of_str wr ss[k] (by omega)
            have hlen : (bytesS (ss.take k)).length + (ss[k].data.toList).length ≤ sizeS ss := by rw [bytesS_length]; have := sizeS_snoc ss k hlt; have := sizeS_take ss (k + 1); have e9 : (ss[k].data.toList).length = ss[k].size := rfl; omega
            have HL := Lib.hid hlen
            have HN : Hid (bytesS (ss.take (k + 1)) = bytesS (ss.take k) ++ ss[k].data.toList) := bytesS_snoc ss k hlt
            have HV := Lib.hid (And.intro hv hg)
            have hw3 := hg.size
            have hBr : B ≤ wr.heap.size := by obtain ⟨o', _, _, hm⟩ := HW.out; have := hm.size; omega
            clear hv hg hlen hc0
            generalize ss[k] = sk at *
            have hdo : Calls Try.prog 40 #[bptr p, bv] w3 fun r w'' => r = .returned (.tuple #[]) ∧ TurnB B w' w'' p o most (s.1 ++ bytesS (ss.take (k + 1)), 0) := by
              obtain ⟨o', k1, k2, k3⟩ := HW.out
              have hL := HL.out
              refine (putT (s.1 ++ bytesS (ss.take k), 0) (k1.grew HV.out.2) (by omega) (by simp; omega) hm1 HV.out.1 (by omega)).mono ?_
              rintro r w'' ⟨rfl, ht⟩
              rw [put_fit _ _ _ (by rw [List.length_append]; omega)] at ht
              obtain ⟨o2, t1, t2, t3⟩ := TurnB.after HV.out.2 ht
              exact ⟨rfl, o2, by rw [HN.out, ← List.append_assoc]; exact t1, k2.trans t2 k3.size, k3.own k2 t3⟩
            have HD := Lib.hid hdo
            have he38 : ∀ args w, (callFunc 40 args).run Try.prog w = .ok (.enter 40 args) w := enters_of Try.func40 (by kernel_rfl) rfl
            clear hdo HW HV
            go_wp2_with fail
            refine HD.out.mono ?_
            rintro r w4 ⟨rfl, ht⟩
            have HT := Lib.hid ht
            clear ht
            go_wp2
            go_roundw
            case rel => exact ⟨k + 1, by omega, by go_num, HT⟩
            case measure => simp [intOf]; omega
          · have e : k = ss.length := by omega
            have HF : Hid (TurnB B w' wr p o most (putS most (bytesS ss) s)) := by
              have h5 := HW.out
              rw [e, List.take_length] at h5
              have e7 : putS most (bytesS ss) s = (s.1 ++ bytesS ss, 0) := by
                unfold putS putL putE
                have := HSZ.out
                rw [if_pos ⟨HE.out, by omega⟩, if_neg (fun h => h.2 (by omega)), HE.out]
              show TurnB _ _ _ _ _ _ _
              rw [e7]; exact h5
            clear HW
            go_wp2
            go_end0
            exact ⟨rfl, HF.out⟩
    · have hdec : decide (most - (s.1.length : Int) < (sizeS ss : Int)) = true := by simp; omega
      have HF : Hid (putS most (bytesS ss) s = failP 5 s) := by
        show _ = _
        unfold putS failP putL putE failS
        have := bytesS_length ss
        rw [if_neg (fun h => by have := h.2; omega), if_pos ⟨HE.out, fun h => by omega⟩, if_pos HE.out]
      go_wp2_with fail
      refine wp_region_tables Grew [[], [0], [], [2], [3], [4], [], [6], [5, 7], [1, 8]] [[(12, 2), (13, 3), (14, 4), (15, 5), (16, 6), (17, 7), (18, 8), (19, 9)], [(10, 0), (12, 2), (13, 3), (14, 4), (15, 5), (16, 6), (17, 7), (18, 8)], [(10, 0), (11, 1), (14, 4), (15, 5), (16, 6), (17, 7), (18, 8), (19, 9)], [(10, 0), (11, 1), (12, 2), (15, 5), (16, 6), (17, 7), (18, 8), (19, 9)], [(10, 0), (11, 1), (12, 2), (13, 3), (16, 6), (17, 7), (18, 8), (19, 9)], [(10, 0), (11, 1), (12, 2), (13, 3), (14, 4), (16, 6), (17, 7), (19, 9)], [(10, 0), (11, 1), (12, 2), (13, 3), (14, 4), (15, 5), (18, 8), (19, 9)], [(10, 0), (11, 1), (12, 2), (13, 3), (14, 4), (15, 5), (16, 6), (19, 9)], [(10, 0), (11, 1), (12, 2), (13, 3), (14, 4), (15, 5), (16, 6), (17, 7)], [(10, 0), (11, 1), (12, 2), (13, 3), (14, 4), (15, 5), (16, 6), (17, 7), (18, 8)]] [(10, 0), (11, 1), (12, 2), (13, 3), (14, 4), (15, 5), (16, 6), (17, 7), (18, 8), (19, 9)]
        [Is (.slice a ss.length c), Is (.int .i64 (sizeS ss : Int)), Is (bptr p), Is (bptr p), Is (.pointer (some ⟨p, 2, none⟩)), Is (.int .i64 most), Is (bptr p), Is (.int .i64 (s.1.length : Int)), Is (.int .i64 (most - (s.1.length : Int))), Is (.bool true)]
        (by kernel_rfl) Grew.trans Grew.refl (Grew.refl _).drew (by kernel_rfl) ⟨is_st, is_st, is_st, is_st, is_st, is_st, is_st, is_st, is_st, is_st, trivial⟩ ⟨?_, ?_, ?_, ?_, ?_, ?_, ?_, ?_, ?_, ?_, trivial⟩ rfl ?_
      · intro y w2 hG hD K hK
        simp only [fillL, Act.put, List.setIfInBounds_toArray, List.set_cons_zero, List.set_cons_succ, List.getD_cons_zero, List.getD_cons_succ, Is] at hK ⊢
        refine ite_yes (by rfl) ?_
        go_simp
        exact hK _ _ _ rfl (Grew.refl _) rfl
      · intro y w2 hG hD K hK
        simp only [depsH, List.getD_cons_zero, List.getD_cons_succ, Is, and_true] at hD
        have h0 := hD
        clear hD
        simp only [fillL, Act.put, List.setIfInBounds_toArray, List.set_cons_zero, List.set_cons_succ, List.getD_cons_zero, List.getD_cons_succ, Is] at hK ⊢
        rw [h0] at hK ⊢
        clear h0
        refine ite_yes (by rfl) ?_
        go_simp
        refine (sum_any w2 _ ss (HS.out.grew hG) hsl hss).mono ?_
        rintro r w3 ⟨rfl, rfl⟩
        exact hK _ _ _ rfl (Grew.refl _) rfl
      · intro y w2 hG hD K hK
        simp only [fillL, Act.put, List.setIfInBounds_toArray, List.set_cons_zero, List.set_cons_succ, List.getD_cons_zero, List.getD_cons_succ, Is] at hK ⊢
        refine ite_yes (by rfl) ?_
        go_simp
        exact hK _ _ _ rfl (Grew.refl _) rfl
      · intro y w2 hG hD K hK
        simp only [depsH, List.getD_cons_zero, List.getD_cons_succ, Is, and_true] at hD
        have h2 := hD
        clear hD
        simp only [fillL, Act.put, List.setIfInBounds_toArray, List.set_cons_zero, List.set_cons_succ, List.getD_cons_zero, List.getD_cons_succ, Is] at hK ⊢
        rw [h2] at hK ⊢
        clear h2
        refine ite_yes (by rfl) ?_
        go_simp
        exact hK _ _ _ rfl (Grew.refl _) rfl
      · intro y w2 hG hD K hK
        simp only [depsH, List.getD_cons_zero, List.getD_cons_succ, Is, and_true] at hD
        have h3 := hD
        clear hD
        simp only [fillL, Act.put, List.setIfInBounds_toArray, List.set_cons_zero, List.set_cons_succ, List.getD_cons_zero, List.getD_cons_succ, Is] at hK ⊢
        rw [h3] at hK ⊢
        clear h3
        refine ite_yes (by rfl) ?_
        go_simp
        exact hK _ _ _ rfl (Grew.refl _) rfl
      · intro y w2 hG hD K hK
        simp only [depsH, List.getD_cons_zero, List.getD_cons_succ, Is, and_true] at hD
        have h4 := hD
        clear hD
        have dc2 := hG.cell c2
        simp only [fillL, Act.put, List.setIfInBounds_toArray, List.set_cons_zero, List.set_cons_succ, List.getD_cons_zero, List.getD_cons_succ, Is] at hK ⊢
        rw [h4] at hK ⊢
        clear h4
        refine ite_yes (by rfl) ?_
        go_simp
        exact hK _ _ _ rfl (Grew.refl _) rfl
      · intro y w2 hG hD K hK
        simp only [fillL, Act.put, List.setIfInBounds_toArray, List.set_cons_zero, List.set_cons_succ, List.getD_cons_zero, List.getD_cons_succ, Is] at hK ⊢
        refine ite_yes (by rfl) ?_
        go_simp
        exact hK _ _ _ rfl (Grew.refl _) rfl
      · intro y w2 hG hD K hK
        simp only [depsH, List.getD_cons_zero, List.getD_cons_succ, Is, and_true] at hD
        have h6 := hD
        clear hD
        simp only [fillL, Act.put, List.setIfInBounds_toArray, List.set_cons_zero, List.set_cons_succ, List.getD_cons_zero, List.getD_cons_succ, Is] at hK ⊢
        rw [h6] at hK ⊢
        clear h6
        refine ite_yes (by rfl) ?_
        go_simp
        refine (len_any (HB.out.grew hG)).mono ?_
        rintro r w3 ⟨rfl, rfl⟩
        exact hK _ _ _ rfl (Grew.refl _) rfl
      · intro y w2 hG hD K hK
        simp only [depsH, List.getD_cons_zero, List.getD_cons_succ, Is, and_true] at hD
        have h5 := hD.1
        have h7 := hD.2
        clear hD
        simp only [fillL, Act.put, List.setIfInBounds_toArray, List.set_cons_zero, List.set_cons_succ, List.getD_cons_zero, List.getD_cons_succ, Is] at hK ⊢
        rw [h5, h7] at hK ⊢
        clear h5 h7
        refine ite_yes (by rfl) ?_
        go_simp
        exact hK _ _ _ rfl (Grew.refl _) rfl
      · intro y w2 hG hD K hK
        simp only [depsH, List.getD_cons_zero, List.getD_cons_succ, Is, and_true] at hD
        have h1 := hD.1
        have h8 := hD.2
        clear hD
        simp only [fillL, Act.put, List.setIfInBounds_toArray, List.set_cons_zero, List.set_cons_succ, List.getD_cons_zero, List.getD_cons_succ, Is] at hK ⊢
        rw [h1, h8] at hK ⊢
        clear h1 h8
        refine ite_yes (by rfl) ?_
        go_simp
        exact hK _ _ _ rfl (Grew.refl _) rfl
      · intro y w2 hG hF
        simp only [factsH, Is, and_true, Nat.reduceAdd] at hF
        have h0 := hF.1
        have h1 := hF.2.1
        have h2 := hF.2.2.1
        have h3 := hF.2.2.2.1
        have h4 := hF.2.2.2.2.1
        have h5 := hF.2.2.2.2.2.1
        have h6 := hF.2.2.2.2.2.2.1
        have h7 := hF.2.2.2.2.2.2.2.1
        have h8 := hF.2.2.2.2.2.2.2.2.1
        have h9 := hF.2.2.2.2.2.2.2.2.2
        clear hF
        simp only [fillL, Act.put, List.setIfInBounds_toArray, List.set_cons_zero, List.set_cons_succ, List.getD_cons_zero, List.getD_cons_succ, Is]
        rw [h0, h1, h2, h3, h4, h5, h6, h7, h8, h9]
        clear h0 h1 h2 h3 h4 h5 h6 h7 h8 h9
        clear c0 c1 c2 c3 hmm hdec
        have h5 := HB.out.grew hG
        have H5 := Lib.hid h5
        have HG := Lib.hid hG
        clear h5 hG
        go_wp2_with fail
        refine (failT s 5 H5.out).mono ?_
        rintro r w5 ⟨rfl, ht⟩
        have HT := Lib.hid (TurnB.after HG.out ht)
        clear ht
        go_wp2
        refine bodyPost_ret (results_none rfl _ _ _) rfl ?_
        exact ⟨rfl, by rw [HF.out]; exact HT.out⟩
  · have HF : Hid (putS most (bytesS ss) s = s) := by
      show _ = _
      obtain ⟨l, e⟩ := s
      unfold putS putL putE
      rw [if_neg (fun h => he h.1), if_neg (fun h => he h.1)]
    have hne : (s.2 != 0) = true := by simpa using he
    go_wp2
    refine bodyPost_ret (results_none rfl _ _ _) rfl ?_
    exact ⟨rfl, by rw [HF.out]; exact TurnB.refl HB.out⟩
end Go.Proofs.Ytajpbclcfjljnaa

/-
  Numbers as bytes: le.fits, le.digits, le.behind, le.Put (onto nil), and the buffer's Num.
-/
namespace Go.Proofs.Ytajpbclcfjljnaa
open Go Go.ChangeShapes Go.WideShapes Go.ChangeAt Go.RowKit Go.Joins
set_option linter.unusedVariables false
set_option linter.unusedSimpArgs false

theorem fits_any (x u : Int) (w : World) (hx : isW x = true) (h0 : 0 ≤ u) (h1 : u ≤ 18446744073709551615) :
    Calls Try.prog 69 #[.int .i64 x, .int .u64 u] w fun r w' => r = .returned (.bool (fitU x u)) ∧ w' = w := by
  rcases isW_cases hx with rfl | rfl | rfl | rfl
  all_goals clear hx
  all_goals
    go_enter Try.func69, Try.ntmps69
    go_wp2
    go_ret
    refine ⟨ret_bool ?_, rfl⟩
    first
      | (show (true : Bool) = _
         unfold fitU
         exact (decide_eq_true (by simp; omega)).symm)
      | (show (_ == _) = _
         unfold fitU
         rw [Bool.eq_iff_iff, beq_iff_eq, decide_eq_true_iff]
         simp only [Int.reduceToNat, Nat.reduceMul, Int.reducePow]
         omega)
theorem fitsc_any (a b : Addr) (x u : Int) (w : World) (ca : w.cell? a = some (.int .i64 x)) (cb : w.cell? b = some (.int .u64 u)) (hx : isW x = true) (h0 : 0 ≤ u) (h1 : u ≤ 18446744073709551615) :
    Calls Try.prog 68 #[.pointer (some a), .pointer (some b)] w fun r w' => r = .returned (.bool (fitU x u)) ∧ w' = w := by
  have HX := Lib.hid hx
  clear hx
  go_enter Try.func68, Try.ntmps68
  go_wp2_with fail
  refine (fits_any x u _ HX.out h0 h1).mono ?_
  rintro r w' ⟨rfl, rfl⟩
  go_wp2
  go_ret
  exact ⟨rfl, rfl⟩
theorem clone_nil (w : World) : Calls Try.prog 35 #[.slice none 0 0] w fun r w' => r = .returned (.slice none 0 0) ∧ w' = w := by
  have hq := fun W => Lib.run_eql_slice_nil_nil (P := Try.prog) W 0 0 Try.underlying36
  go_enter Try.func35, Try.ntmps35
  go_wp2
  go_ret
  exact ⟨rfl, rfl⟩

theorem digits_set (n k U : Nat) (hk : k < n) : (Lib.byteCells (digB k U ++ zeros (n - k))).set k (.int .u8 ((U : Int) / 2 ^ (8 * k) % 256)) = Lib.byteCells (digB (k + 1) U ++ zeros (n - (k + 1))) := by
  have hv : ((UInt8.ofNat (U / 256 ^ k % 256)).toNat : Int) = (U : Int) / 2 ^ (8 * k) % 256 := by
    rw [UInt8.toNat_ofNat']
    have : (2 : Nat) ^ 8 = 256 := rfl
    rw [this]
    have h2 : ((2 : Int) ^ (8 * k)) = ((256 ^ k : Nat) : Int) := by
      rw [Int.pow_mul]; simp
    rw [h2, ← Int.natCast_ediv]
    omega
  have e : digB (k + 1) U = digB k U ++ [UInt8.ofNat (U / 256 ^ k % 256)] := by simp [digB, List.range_succ]
  have ez : zeros (n - k) = 0 :: zeros (n - (k + 1)) := by
    obtain ⟨m, hm⟩ : ∃ m, n - k = m + 1 := ⟨n - k - 1, by omega⟩
    rw [hm, show n - (k + 1) = m by omega]; rfl
  rw [e, ez]
  unfold Lib.byteCells
  rw [List.map_append, List.set_append_right _ _ (by simp [digB])]
  simp only [digB, List.length_map, List.length_range, Nat.sub_self, List.map_cons, List.set_cons_zero, List.map_append, List.map_nil, List.append_assoc, List.cons_append, List.nil_append, hv]
theorem digits_any (g n c : Nat) (u : Int) (w : World) (h0 : 0 ≤ u) (h1 : u ≤ 18446744073709551615) (hn : n ≤ 8) (B : Nat) (hown : w.ownsRow B 5 1 (.slice (some ⟨g, 0, none⟩) n c) n (Lib.byteCells (zeros n))) :
    Calls Try.prog 71 #[.slice (some ⟨g, 0, none⟩) n c, .int .u64 u] w fun r w' => r = .returned (.tuple #[]) ∧ w'.ownsRow B 5 1 (.slice (some ⟨g, 0, none⟩) n c) n (Lib.byteCells (digB n u.toNat)) ∧ Moved (fun k => k = g) w w' := by
  have HO := Lib.hid hown
  clear hown
  obtain ⟨U, rfl⟩ := Int.eq_ofNat_of_zero_le h0
  go_enter Try.func71, Try.ntmps71
  go_wp2_with fail
  go_loopw [4, 7] (fun _ i wr => ∃ k : Nat, k ≤ n ∧ i = .int .i64 k ∧ Hid (wr.ownsRow B 5 1 (.slice (some ⟨g, 0, none⟩) n c) n (Lib.byteCells (digB k U ++ zeros (n - k))) ∧ Moved (fun k => k = g) w wr)) (fun _ i _ => n - (intOf i).toNat)
  case atStart => exact ⟨0, Nat.zero_le _, rfl, HO.out, Moved.refl _ _⟩
  case round =>
    obtain ⟨k, hk, rfl, HW⟩ := hrel
    by_cases hlt : k < n
    · obtain ⟨z, hc⟩ : ∃ z, wr.cell? ⟨g, k, none⟩ = some z := by
        rw [World.ownsRow.cellAt HW.out.1 k (by omega)]
        exact ⟨_, List.getElem?_eq_getElem (by simp [Lib.byteCells, digB, zeros]; omega)⟩
      have hf : wr.frozen? ⟨g, k, none⟩ = false := HW.out.1.frozenAt k
      have HN : Hid ((wr.setCell ⟨g, k, none⟩ (.int .u8 ((U : Int) / 2 ^ (8 * k) % 256))).ownsRow B 5 1 (.slice (some ⟨g, 0, none⟩) n c) n (Lib.byteCells (digB (k + 1) U ++ zeros (n - (k + 1)))) ∧ Moved (fun k => k = g) w (wr.setCell ⟨g, k, none⟩ (.int .u8 ((U : Int) / 2 ^ (8 * k) % 256)))) := by
        have h2 := HW.out.1.stored k (.int .u8 ((U : Int) / 2 ^ (8 * k) % 256))
        rw [digits_set n k U hlt] at h2
        exact ⟨h2.1, HW.out.2.trans' (moved_at wr g k _)⟩
      clear HW
      go_wp2
      go_roundw
      case rel => exact ⟨k + 1, by omega, by go_num, HN⟩
      case measure => simp [intOf]; omega
    · have e : k = n := by omega
      subst e
      go_wp2
      go_end0
      refine ⟨rfl, ?_, HW.out.2⟩
      have := HW.out.1
      simpa [zeros] using this

theorem append_zeros (w : World) (n : Nat) (h0 : 0 < n) (hn : n ≤ 1099511627776) (ty : TypeId) :
    ∃ c w3, (Builtin.append_ #[36, 3] ty #[.slice none 0 0, .int .i64 n]).run Try.prog w = .ok (.slice (some ⟨w.heap.size, 0, none⟩) n c) w3 ∧ w3.ownsRow w.heap.size 5 1 (.slice (some ⟨w.heap.size, 0, none⟩) n c) n (Lib.byteCells (zeros n)) ∧ Grew w w3 := by
  obtain ⟨i0, hi, hz0, hz1, hz2⟩ := byte_parts
  have hr := Lib.run_append_nil_zeros (P := Try.prog) w 36 3 ty 5 i0 (.int .u8 0) .i64 .i64 Try.underlying36 Try.underlying3 hi hz0 n h0 (by omega) (by omega) (by rw [hz2]; omega)
  refine ⟨_, _, hr, ?_, ((Grew.refl w).drew).alloc _⟩
  have hge := grownCap_ge w n 0 5
  have hle := grownCap_le_maxLen w n 0 5 (by unfold maxLen; omega)
  refine ⟨by simp [Lib.byteCells, zeros], .inr ⟨w.heap.size, _, _, rfl, Nat.le_refl _, heap_alloc_new w.drew _, hge, hle, by simp [Builtin.zeroCells, Value.cells]; omega, ?_⟩⟩
  rw [Array.toList_append, List.take_append_of_le_length (by simp [Builtin.zeroCells, Value.cells])]
  rw [List.take_of_length_le (by simp [Builtin.zeroCells, Value.cells])]
  apply List.ext_getElem?
  intro j
  by_cases hj : j < n
  · simp [Builtin.zeroCells, Value.cells, Lib.byteCells, zeros, hj, Nat.mod_one]
  · simp [Builtin.zeroCells, Value.cells, Lib.byteCells, zeros, hj]

theorem behind_arg (x u : Int) (a b : Addr) (w : World) (hx : isW x = false) :
    Calls Try.prog 67 #[.slice none 0 0, .int .i64 x, .int .u64 u, .func (.func 68) #[] #[.pointer (some a), .pointer (some b)]] w fun r w' => r = .returned (.tuple #[.slice none 0 0, .int .i64 2]) ∧ w' = w := by
  have HX := Lib.hid hx
  clear hx
  go_enter Try.func67, Try.ntmps67
  go_wp2_with fail
  refine (leis_any x _).mono ?_
  rw [HX.out]
  rintro r w' ⟨rfl, rfl⟩
  go_wp2
  go_ret2
  exact ⟨rfl, rfl⟩
theorem behind_nofit (x u : Int) (a b : Addr) (w : World) (hx : isW x = true) (hf : fitU x u = false) (ca : w.cell? a = some (.int .i64 x)) (cb : w.cell? b = some (.int .u64 u)) (h0 : 0 ≤ u) (h1 : u ≤ 18446744073709551615) :
    Calls Try.prog 67 #[.slice none 0 0, .int .i64 x, .int .u64 u, .func (.func 68) #[] #[.pointer (some a), .pointer (some b)]] w fun r w' => r = .returned (.tuple #[.slice none 0 0, .int .i64 10]) ∧ w' = w := by
  have HX := Lib.hid hx
  have HF := Lib.hid hf
  clear hx hf
  have he : ∀ args w, (callFunc 68 args).run Try.prog w = .ok (.enter 68 args) w := enters_of Try.func68 (by kernel_rfl) rfl
  go_enter Try.func67, Try.ntmps67
  go_wp2_with fail
  refine (leis_any x _).mono ?_
  rw [HX.out]
  rintro r w' ⟨rfl, rfl⟩
  go_wp2_with fail
  refine (fitsc_any a b x u _ ca cb HX.out h0 h1).mono ?_
  rw [HF.out]
  rintro r w' ⟨rfl, rfl⟩
  go_wp2
  go_ret2
  exact ⟨rfl, rfl⟩
theorem behind_ok (x u : Int) (a b : Addr) (w : World) (hx : isW x = true) (hf : fitU x u = true) (ca : w.cell? a = some (.int .i64 x)) (cb : w.cell? b = some (.int .u64 u)) (h0 : 0 ≤ u) (h1 : u ≤ 18446744073709551615) :
    Calls Try.prog 67 #[.slice none 0 0, .int .i64 x, .int .u64 u, .func (.func 68) #[] #[.pointer (some a), .pointer (some b)]] w fun r w' => ∃ v', r = .returned (.tuple #[v', .int .i64 0]) ∧ w'.ownsRow w.heap.size 5 1 v' x.toNat (Lib.byteCells (digB x.toNat u.toNat)) ∧ Grew w w' := by
  have HX := Lib.hid hx
  have HF := Lib.hid hf
  have x0 : 0 < x ∧ x ≤ 8 := by rcases isW_cases hx with rfl | rfl | rfl | rfl <;> omega
  obtain ⟨x0, x1⟩ := x0
  clear hx hf
  obtain ⟨n, rfl⟩ := Int.eq_ofNat_of_zero_le (show 0 ≤ x by omega)
  have hn0 : 0 < n := by omega
  have hn8 : n ≤ 8 := by omega
  obtain ⟨c, w3, hr, hown, hg⟩ := append_zeros w n hn0 (by omega) 36
  have HR := Lib.hid hr
  have HO := Lib.hid hown
  have HG := Lib.hid hg
  have hcn : (n : Int) ≤ c := by
    obtain ⟨_, h2⟩ := hown
    rcases h2 with ⟨h2, _⟩ | ⟨g, cap, cur, h2, _, _, h3, _⟩
    · cases h2
    · injection h2 with _ _ h4; omega
  clear hr hown hg
  have he : ∀ args w, (callFunc 68 args).run Try.prog w = .ok (.enter 68 args) w := enters_of Try.func68 (by kernel_rfl) rfl
  go_enter Try.func67, Try.ntmps67
  go_wp2_with fail
  refine (leis_any (n : Int) _).mono ?_
  rw [HX.out]
  rintro r w' ⟨rfl, rfl⟩
  go_wp2_with fail
  refine (fitsc_any a b (n : Int) u _ ca cb HX.out h0 h1).mono ?_
  rw [HF.out]
  rintro r w' ⟨rfl, rfl⟩
  go_wp2_with fail
  refine (clone_nil _).mono ?_
  rintro r w' ⟨rfl, rfl⟩
  go_wp2_with (at_builtin; refine Lib.wpList_append_run _ rfl _ _ 36 3 rfl _ _ rfl rfl _ _ HR.out ?_)
  refine (digits_any _ n c u w3 h0 h1 hn8 w'.heap.size HO.out).mono ?_
  rintro r w4 ⟨rfl, ho, hm⟩
  have HE := Lib.hid (And.intro ho hm)
  clear ho hm
  go_wp2
  go_ret2
  refine ⟨_, rfl, HE.out.1, ?_⟩
  have h5 := (Moved.of_grew (S := fun k => k = w'.heap.size) HG.out).trans' HE.out.2
  exact h5.below (Nat.le_refl _) (fun k hk => by omega)

/-- le.Put onto nil. -/
theorem lput_ok (x u : Int) (w : World) (hx : isW x = true) (hf : fitU x u = true) (h0 : 0 ≤ u) (h1 : u ≤ 18446744073709551615) :
    Calls Try.prog 54 #[.slice none 0 0, .int .i64 x, .int .u64 u] w fun r w' => ∃ v', r = .returned (.tuple #[v', .int .i64 0]) ∧ BytesAt w' v' (digB x.toNat u.toNat) ∧ Grew w w' := by
  have HX := Lib.hid hx
  have HF := Lib.hid hf
  clear hx hf
  go_enter Try.func54, Try.ntmps54
  go_wp2_with fail
  refine (behind_ok x u _ _ _ HX.out HF.out (by go_simp) (by go_simp) h0 h1).mono ?_
  rintro r w4 ⟨v', rfl, ho, hg⟩
  have HE := Lib.hid (And.intro ho hg)
  clear ho hg
  go_wp2
  go_ret2
  refine ⟨_, rfl, ?_, (((Grew.refl w).alloc _).alloc _).trans HE.out.2⟩
  have h5 := HE.out.1
  have e : x.toNat = (digB x.toNat u.toNat).length := (length_digB _ _).symm
  exact BytesAt.of_own (by rw [← e]; exact h5)
theorem lput_nofit (x u : Int) (w : World) (hx : isW x = true) (hf : fitU x u = false) (h0 : 0 ≤ u) (h1 : u ≤ 18446744073709551615) :
    Calls Try.prog 54 #[.slice none 0 0, .int .i64 x, .int .u64 u] w fun r w' => r = .returned (.tuple #[.slice none 0 0, .int .i64 10]) ∧ Grew w w' := by
  have HX := Lib.hid hx
  have HF := Lib.hid hf
  clear hx hf
  go_enter Try.func54, Try.ntmps54
  go_wp2_with fail
  refine (behind_nofit x u _ _ _ HX.out HF.out (by go_simp) (by go_simp) h0 h1).mono ?_
  rintro r w4 ⟨rfl, rfl⟩
  go_wp2
  go_ret2
  exact ⟨rfl, ((Grew.refl w).alloc _).alloc _⟩

/-- Num's closure. -/
theorem numc_any {B : Nat} {w : World} {p : Nat} {o : Option Nat} {most : Int} (s : St) (x u : Int) (a b c : Addr) (ca : w.cell? a = some (.int .i64 x)) (cb : w.cell? b = some (.int .u64 u)) (cc : w.cell? c = some (bptr p))
    (h : BufAt B w p o s.1 most s.2) (hB : B ≤ w.heap.size) (hl : (s.1.length : Int) ≤ most) (hm1 : most ≤ 1048576) (hx : isW x = true) (h0 : 0 ≤ u) (h1 : u ≤ 18446744073709551615) :
    Calls Try.prog 53 #[.pointer (some a), .pointer (some b), .pointer (some c)] w fun r w' => r = .returned (.tuple #[]) ∧ TurnB B w w' p o most (numS most x u s) := by
  have HB := Lib.hid h
  have HX := Lib.hid hx
  have hx8 : x.toNat ≤ 8 := by rcases isW_cases hx with rfl | rfl | rfl | rfl <;> decide
  have HX8 := Lib.hid hx8
  clear h hx hx8
  go_enter Try.func53, Try.ntmps53
  by_cases hf : fitU x u = true
  · have HS : Hid (numS most x u s = putS most (digB x.toNat u.toNat) s) := by show _ = _; rw [numS, if_pos HX.out, if_pos hf]
    have HF := Lib.hid hf
    clear hf
    go_wp2_with fail
    refine (lput_ok x u _ HX.out HF.out h0 h1).mono ?_
    rintro r w4 ⟨v', rfl, hv, hg⟩
    have cc4 := hg.cell cc
    have hs := hg.size
    have HE := Lib.hid (And.intro hv hg)
    clear hv hg ca cb cc
    go_wp2_with fail
    refine (putT s (HB.out.grew HE.out.2) (by omega) hl hm1 HE.out.1 (by rw [length_digB]; have := HX8.out; omega)).mono ?_
    rintro r w5 ⟨rfl, ht⟩
    have HT := Lib.hid ht
    clear ht
    go_wp2
    go_end0
    exact ⟨rfl, by rw [HS.out]; exact HT.out.after HE.out.2⟩
  · have HS : Hid (numS most x u s = failP 10 s) := by show _ = _; rw [numS, if_pos HX.out, if_neg hf]
    have HF := Lib.hid (show fitU x u = false by simpa using hf)
    clear hf
    go_wp2_with fail
    refine (lput_nofit x u _ HX.out HF.out h0 h1).mono ?_
    rintro r w4 ⟨rfl, hg⟩
    have cc4 := hg.cell cc
    have HE := Lib.hid hg
    clear hg ca cb cc
    go_wp2_with fail
    refine (failT s 10 (HB.out.grew HE.out)).mono ?_
    rintro r w5 ⟨rfl, ht⟩
    have HT := Lib.hid ht
    clear ht
    go_wp2
    refine bodyPost_ret (results_none rfl _ _ _) rfl ?_
    exact ⟨rfl, by rw [HS.out]; exact HT.out.after HE.out⟩

/-- The buffer's Num. -/
theorem num_any {B : Nat} {w : World} {p : Nat} {o : Option Nat} {most : Int} (s : St) (x u : Int) (h : BufAt B w p o s.1 most s.2) (hB : B ≤ w.heap.size) (hl : (s.1.length : Int) ≤ most) (hm1 : most ≤ 1048576) (h0 : 0 ≤ u) (h1 : u ≤ 18446744073709551615) :
    Calls Try.prog 31 #[bptr p, .int .i64 x, .int .u64 u] w fun r w' => r = .returned (.tuple #[]) ∧ TurnB B w w' p o most (numS most x u s) := by
  have HB := Lib.hid h
  clear h
  go_enter Try.func31, Try.ntmps31
  go_wp2_with fail
  have G : Grew w (((w.alloc (.cells #[bptr p] 26)).alloc (.cells #[.int .i64 x] 3)).alloc (.cells #[.int .u64 u] 28)) := (((Grew.refl w).alloc _).alloc _).alloc _
  refine (with_any s x _ _ (HB.out.grew G) (numS most x u s) (fun hx => by rw [numS, if_neg (by simp [hx])]) (fun _ => enters_of Try.func53 (by kernel_rfl) rfl _ _) (fun hx => numc_any s x u _ _ _ (by go_simp) (by go_simp) (by go_simp) (HB.out.grew G) (Nat.le_trans hB G.size) hl hm1 hx h0 h1)).mono ?_
  rintro r w5 ⟨rfl, ht⟩
  have HT := Lib.hid (TurnB.after G ht)
  clear ht G
  go_wp2
  go_end0
  exact ⟨rfl, HT.out⟩

end Go.Proofs.Ytajpbclcfjljnaa
