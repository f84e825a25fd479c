/-
  Texts of the proof, part 1 of 9.
-/
import Derived.Orders
import Derived.Below
import Derived.KernelRfl
import Derived.WalkKit
import Derived.WalkSpells
import Derived.WalkLawsBesides
import Derived.Test.YtlhliolknaopjaaRows
import Derived.ProofKit
import Derived.OpenShut
import Derived.ShutString
import Derived.ChangeOld
import Derived.Lib.SmallJoins
import Derived.Lib.UnsafeStr
import Derived.Lib.Hide
import Derived.Handy
import Derived.Laws.OwnMore
import Derived.Deep.QuietTactic
import Derived.BigQuiet
import Derived.Laws.AppendOwnNone
import Derived.Lib.AppendZeros
import Derived.Lib.BufferMore
import Derived.Deep.Slices
import Derived.Deep.Strs
import Derived.Deep.Fields
import Derived.ChangeSame
import Derived.Laws.EntriesVeiled
import Derived.Test.YtlhliolknaopjaaProg
import Derived.WideMake
import Derived.MapKept
import Derived.WalkSmall

/-
  Plain lemma, no program: a region that leaves its order open is carried out in some order; if each operation, whenever what it waits for has been done, yields a value with its own fact, and facts abide whatever the region does, then behind the region all facts hold. Conditions: the dependency table passes a closed check.
-/
namespace Go.Proofs.Ytlhliolknaopjaa
set_option linter.unusedSimpArgs false
set_option linter.unusedVariables false
open Go Go.RowKit

/-! ### growth of the world -/

/-- All that was there lies as it lay. -/
def Grew (w w' : World) : Prop := Below w.heap.size w w'
theorem Grew.refl (w : World) : Grew w w := Below.refl _ _
theorem Grew.trans {a b c : World} (h : Grew a b) (k : Grew b c) : Grew a c := Below.trans h (Below.mono k (Below.size h))
theorem Grew.below {a b : World} (h : Grew a b) : Below a.heap.size a b := h
theorem Grew.size {a b : World} (h : Grew a b) : a.heap.size ≤ b.heap.size := Below.size h
theorem Grew.drew {a w : World} (h : Grew a w) : Grew a w.drew := Below.drew h
theorem Grew.alloc {a w : World} (h : Grew a w) (o : Obj) : Grew a (w.alloc o) := Below.alloc h (Below.size h) o
theorem Grew.setCell {a w : World} (h : Grew a w) {p : Addr} (hp : a.heap.size ≤ p.block) (u : Value) : Grew a (w.setCell p u) := Below.setCell h hp u
theorem Grew.heap {w w' : World} (h : Grew w w') {k : Nat} {o : Obj} (hk : w.heap[k]? = some o) : w'.heap[k]? = some o :=
  (Below.block h k (Array.getElem?_eq_some_iff.1 hk).1).trans hk
theorem lt_of_cell {w : World} {p : Addr} {v : Value} (hc : w.cell? p = some v) : p.block < w.heap.size := by
  rcases Nat.lt_or_ge p.block w.heap.size with h | h
  · exact h
  · simp [World.cell?, Array.getElem?_eq_none h] at hc
theorem Grew.cell {w w' : World} (h : Grew w w') {p : Addr} {v : Value} (hc : w.cell? p = some v) : w'.cell? p = some v :=
  (Below.cell h (lt_of_cell hc)).trans hc
theorem Grew.frozen {w w' : World} (h : Grew w w') {p : Addr} {b : Bool} (hp : p.block < w.heap.size) (hc : w.frozen? p = b) : w'.frozen? p = b :=
  (Below.frozen h hp).trans hc

/-- What the walk wants of a grown world: old cells, old marks, the size. -/
theorem Grew.rules {W w1 : World} (hb : Grew W w1) : (∀ b o, b < W.heap.size → w1.cell? ⟨b, o, none⟩ = W.cell? ⟨b, o, none⟩) ∧ (∀ b o, b < W.heap.size → w1.frozen? ⟨b, o, none⟩ = W.frozen? ⟨b, o, none⟩) ∧ W.heap.size ≤ w1.heap.size :=
  ⟨fun b o h => Below.cell (p := ⟨b, o, none⟩) hb h, fun b o h => Below.frozen (p := ⟨b, o, none⟩) hb h, hb.size⟩

/-! ### filling the slots of a frame -/

section
variable {P : Program} {ops : Array Oper}

def fillL (y : Nat → Value) : List (Nat × Nat) → Act → Act
  | [], a => a
  | (d, j) :: r, a => fillL y r (a.put (some d) (y j))

theorem put_put (a : Act) (d : Nat) (u v : Value) : (a.put (some d) u).put (some d) v = a.put (some d) v := by
  simp [Act.put]

theorem fillL_put (y : Nat → Value) (d : Nat) (u : Value) : ∀ (r : List (Nat × Nat)) (a : Act), (∀ p ∈ r, p.1 ≠ d) → fillL y r (a.put (some d) u) = (fillL y r a).put (some d) u
  | [], _, _ => rfl
  | (e, j) :: r, a, h => by
    have hne : e ≠ d := h (e, j) (by simp)
    have hc : (a.put (some d) u).put (some e) (y j) = (a.put (some e) (y j)).put (some d) u := Act.put_comm a u (y j) (fun x hx hy => by cases hx; cases hy; exact hne rfl)
    show fillL y r ((a.put (some d) u).put (some e) (y j)) = _
    rw [hc]
    exact fillL_put y d u r _ (fun p hp => h p (by simp [hp]))

theorem fillL_congr (y z : Nat → Value) : ∀ (r : List (Nat × Nat)) (a : Act), (∀ p ∈ r, y p.2 = z p.2) → fillL y r a = fillL z r a
  | [], _, _ => rfl
  | (e, j) :: r, a, h => by
    show fillL y r (a.put (some e) (y j)) = fillL z r (a.put (some e) (z j))
    rw [h (e, j) (by simp)]
    exact fillL_congr y z r _ (fun p hp => h p (by simp [hp]))

/-- no slot twice, no operation twice -/
def keysOK : List (Nat × Nat) → Bool
  | [] => true
  | p :: r => r.all (fun q => q.1 != p.1 && q.2 != p.2) && keysOK r

theorem fillL_set (y : Nat → Value) (i : Nat) (v : Value) : ∀ (L : List (Nat × Nat)) (a : Act) (d : Nat), keysOK L = true → (d, i) ∈ L →
    fillL (fun k => if k = i then v else y k) L a = (fillL y L a).put (some d) v
  | (e, j) :: r, a, d, hk, hm => by
    simp only [keysOK, Bool.and_eq_true, List.all_eq_true, bne_iff_ne] at hk
    obtain ⟨hne, hk⟩ := hk
    show fillL _ r (a.put (some e) (if j = i then v else y j)) = (fillL y r (a.put (some e) (y j))).put (some d) v
    rcases List.mem_cons.1 hm with h | h
    · obtain ⟨rfl, rfl⟩ := Prod.mk.injEq .. ▸ h
      rw [if_pos rfl, fillL_congr _ y r _ (fun p hp => if_neg (hne p hp).2), fillL_put y d v r a (fun p hp => (hne p hp).1), fillL_put y d (y i) r a (fun p hp => (hne p hp).1), put_put]
    · have hij : j ≠ i := fun he => (hne _ h).2 he.symm
      rw [if_neg hij]
      exact fillL_set y i v r _ d hk h

theorem fillL_filter (y : Nat → Value) (p : Nat × Nat → Bool) : ∀ (L : List (Nat × Nat)) (a : Act), keysOK L = true → (∀ q ∈ L, p q = false → a.put (some q.1) (y q.2) = a) →
    fillL y (L.filter p) a = fillL y L a
  | [], _, _, _ => rfl
  | (e, j) :: r, a, hk, h => by
    simp only [keysOK, Bool.and_eq_true, List.all_eq_true, bne_iff_ne] at hk
    obtain ⟨hne, hk⟩ := hk
    have hr : ∀ q ∈ r, p q = false → (a.put (some e) (y j)).put (some q.1) (y q.2) = a.put (some e) (y j) := fun q hq hp => by
      rw [← Act.put_comm a (y q.2) (y j) (fun x hx hy => by cases hx; cases hy; exact (hne q hq).1 rfl), h q (by simp [hq]) hp]
    cases hp : p (e, j) with
    | true =>
      rw [List.filter_cons_of_pos hp]
      exact fillL_filter y p r _ hk hr
    | false =>
      rw [List.filter_cons_of_neg (by simp [hp])]
      have h0 := h (e, j) (by simp) hp
      show fillL y (r.filter p) a = fillL y r (a.put (some e) (y j))
      simp only at h0
      rw [h0] at hr ⊢
      exact fillL_filter y p r _ hk hr

/-- every slot that the region writes, with its operation's number -/
def pairsOf (ops : Array Oper) : List (Nat × Nat) := (List.range ops.size).filterMap fun j => ((ops[j]?).bind (·.dst)).map fun d => (d, j)

theorem mem_pairsOf {d j : Nat} : (d, j) ∈ pairsOf ops ↔ (ops[j]?).bind (·.dst) = some d := by
  unfold pairsOf
  rw [List.mem_filterMap]
  constructor
  · rintro ⟨k, _, hk⟩
    cases hd : (ops[k]?).bind (·.dst) with
    | none => simp [hd] at hk
    | some e => simp [hd] at hk; obtain ⟨rfl, rfl⟩ := hk; exact hd
  · intro h
    refine ⟨j, ?_, by simp [h]⟩
    rw [List.mem_range]
    rcases Nat.lt_or_ge j ops.size with h' | h'
    · exact h'
    · rw [Array.getElem?_eq_none h'] at h; cases h

/-- does operation j wait (by the table) for operation i? -/
def waits (D : Array (List Nat)) (i j : Nat) : Bool := (D.getD j []).contains i

/-- The slots of what may have been done when operation i comes up: all but i's own and those of what waits for i. -/
def canonL (ops : Array Oper) (D : Array (List Nat)) (i : Nat) : List (Nat × Nat) := (pairsOf ops).filter fun q => !(q.2 == i || waits D i q.2)

/-- The table is sound: what stands in a row is waited for at one or more steps; edges lead back in the text's order. -/
def factsOK (ops : Array Oper) (D : Array (List Nat)) : Bool :=
  keysOK (pairsOf ops) &&
  (List.range ops.size).all fun i =>
    match ops[i]? with
    | none => true
    | some o =>
      let es := (o.after.toList.filter (Region.binds .any)).map (·.on)
      es.all (fun e => e < i) && (D.getD i []).all fun k => es.any fun e => e == k || (D.getD e []).contains k

/-- One operation's word: whenever it comes up, with what it waits for done, it goes on with its fact. -/
def opWord (P : Program) (ops : Array Oper) (R : World → World → Prop) (D : Array (List Nat)) (Φ : Nat → Value → World → Prop) (a0 : Act) (w0 : World) (i : Nat) (o : Oper) : Prop :=
  ∀ (y : Nat → Value) (w : World), R w0 w → (∀ j ∈ D.getD i [], Φ j (y j) w) → ∀ K : Act → World → Prop,
    (∀ v w', R w w' → Φ i v w' → K ((fillL y (canonL ops D i) a0).put o.dst v) w') →
    if Region.wanted o (yielded ops (fillL y (canonL ops D i) a0).tmps) then o.wp P (fillL y (canonL ops D i) a0) w K (fun _ _ _ => False) else K ((fillL y (canonL ops D i) a0).put o.dst undef) w

def allWords (p : Nat → Oper → Prop) : Nat → List Oper → Prop
  | _, [] => True
  | i, o :: r => p i o ∧ allWords p (i + 1) r

theorem allWords_get {p : Nat → Oper → Prop} : ∀ (l : List Oper) (i k : Nat) (o : Oper), allWords p i l → l[k]? = some o → p (i + k) o := by
  intro l
  induction l with
  | nil => intro i k o _ hk; cases hk
  | cons o' r ih =>
    intro i k o h hk
    cases k with
    | zero =>
      rw [List.getElem?_cons_zero, Option.some.injEq] at hk
      rw [← hk]; exact h.1
    | succ k =>
      rw [List.getElem?_cons_succ] at hk
      have h2 := ih (i + 1) k o h.2 hk
      have e : i + (k + 1) = i + 1 + k := by omega
      rw [e]; exact h2

theorem filter_lt {p q : Nat → Bool} : ∀ (l : List Nat) (i : Nat), (∀ j, q j = true → p j = true) → i ∈ l → p i = true → q i = false → (l.filter q).length < (l.filter p).length
  | x :: l, i, h, hm, hp, hq => by
    have hle : ∀ l : List Nat, (l.filter q).length ≤ (l.filter p).length := fun l => by
      induction l with
      | nil => simp
      | cons y l ih =>
        cases hqy : q y with
        | true => rw [List.filter_cons_of_pos hqy, List.filter_cons_of_pos (h y hqy)]; simpa using ih
        | false =>
          rw [List.filter_cons_of_neg (by simp [hqy])]
          cases hpy : p y with
          | true => rw [List.filter_cons_of_pos hpy]; simp; omega
          | false => rw [List.filter_cons_of_neg (by simp [hpy])]; exact ih
    rcases List.mem_cons.1 hm with he | he
    · subst he
      rw [List.filter_cons_of_pos hp, List.filter_cons_of_neg (by simp [hq])]
      have := hle l
      simp; omega
    · have ih := filter_lt l i h he hp hq
      cases hqx : q x with
      | true => rw [List.filter_cons_of_pos hqx, List.filter_cons_of_pos (h x hqx)]; simpa using ih
      | false =>
        rw [List.filter_cons_of_neg (by simp [hqx])]
        cases hpx : p x with
        | true => rw [List.filter_cons_of_pos hpx]; simp; omega
        | false => rw [List.filter_cons_of_neg (by simp [hpx])]; exact ih

structure InvF (ops : Array Oper) (R : World → World → Prop) (D : Array (List Nat)) (Φ : Nat → Value → World → Prop) (a0 : Act) (w0 : World) (listed : Array Bool) (a : Act) (w : World) (y : Nat → Value) : Prop where
  size : listed.size = ops.size
  act : a = fillL y (pairsOf ops) a0
  grown : R w0 w
  facts : ∀ j, listed.getD j false = true → Φ j (y j) w
  open_ : ∀ j d, listed.getD j true = false → (ops[j]?).bind (·.dst) = some d → a0.put (some d) (y j) = a0
  closed : ∀ j, listed.getD j false = true → ∀ k ∈ D.getD j [], listed.getD k false = true

theorem put_self (a : Act) (d : Nat) : a.put (some d) (a.tmps.getD d undef) = a := by
  cases a with
  | mk t df =>
    simp only [Act.put]
    congr 1
    apply Array.ext
    · simp
    · intro i h1 h2
      rw [Array.getElem_setIfInBounds h2]
      split
      · rename_i he; subst he; simp [Array.getD, h2]
      · rfl

theorem listed_cases {listed : Array Bool} {j : Nat} (hj : j < listed.size) : listed.getD j true = listed.getD j false := by
  simp [Array.getD, hj]

theorem wpAny_of_facts {R : World → World → Prop} {D : Array (List Nat)} {Φ : Nat → Value → World → Prop} {a0 : Act} {w0 : World} {Q : Exit → Act → World → Prop}
    (hRt : ∀ {a b c : World}, R a b → R b c → R a c) (hchk : factsOK ops D = true) (hst : ∀ j v w w', R w w' → Φ j v w → Φ j v w') (hrr : ∀ w, R w w)
    (hop : ∀ i o, ops[i]? = some o → opWord P ops R D Φ a0 w0 i o)
    (hfin : ∀ y w, R w0 w → (∀ j, j < ops.size → Φ j (y j) w) → Q .normal (fillL y (pairsOf ops) a0) w) :
    ∀ (fuel : Nat) (listed : Array Bool) (a : Act) (w : World) (y : Nat → Value), ((List.range ops.size).filter fun j => !listed.getD j true).length ≤ fuel →
      InvF ops R D Φ a0 w0 listed a w y → wpAny P .any ops Q fuel listed a w := by
  simp only [factsOK, Bool.and_eq_true, List.all_eq_true, List.mem_range] at hchk
  obtain ⟨hkeys, hrows⟩ := hchk
  -- nothing ready: all has been listed
  have hall : ∀ (listed : Array Bool), listed.size = ops.size → Region.ready .any ops listed = [] → ∀ j, j < ops.size → listed.getD j false = true := by
    intro listed hs hnil j
    induction j using Nat.strongRecOn with
    | ind j ih =>
      intro hj
      cases hl : listed.getD j false with
      | true => rfl
      | false =>
        exfalso
        have hmem : j ∈ Region.ready .any ops listed := by
          rw [mem_ready]
          refine ⟨by rw [listed_cases (by omega)]; exact hl, ops[j], Array.getElem?_eq_getElem hj, fun e he hb => ?_⟩
          have hrow := hrows j hj
          rw [Array.getElem?_eq_getElem hj] at hrow
          simp only [Bool.and_eq_true, List.all_eq_true, decide_eq_true_eq] at hrow
          have hlt := hrow.1 e.on (List.mem_map.2 ⟨e, List.mem_filter.2 ⟨by simpa using he, hb⟩, rfl⟩)
          exact ih e.on hlt (by omega)
        rw [hnil] at hmem
        cases hmem
  have hdone : ∀ (listed : Array Bool) (a : Act) (w : World) (y : Nat → Value), InvF ops R D Φ a0 w0 listed a w y → Region.ready .any ops listed = [] → Q .normal a w := by
    intro listed a w y hI hnil
    rw [hI.act]
    exact hfin y w hI.grown (fun j hj => hI.facts j (hall listed hI.size hnil j hj))
  intro fuel
  induction fuel with
  | zero =>
    intro listed a w y hlen hI
    have hnil : Region.ready .any ops listed = [] := by
      have h0 : ((List.range ops.size).filter fun j => !listed.getD j true) = [] := List.length_eq_zero_iff.1 (by omega)
      refine List.eq_nil_iff_forall_not_mem.2 fun j hj => ?_
      have hj' := mem_ready.1 hj
      have : j ∈ ((List.range ops.size).filter fun j => !listed.getD j true) := by
        obtain ⟨hl, o, ho, _⟩ := hj'
        exact List.mem_filter.2 ⟨List.mem_range.2 (Array.getElem?_eq_some_iff.1 ho).1, by simp [hl]⟩
      rw [h0] at this
      cases this
    exact ⟨hnil, hdone listed a w y hI hnil⟩
  | succ fuel ih =>
    intro listed a w y hlen hI
    refine ⟨hdone listed a w y hI, fun i hi => ?_⟩
    obtain ⟨hun, o, ho, hedges⟩ := mem_ready.1 hi
    have hilt : i < ops.size := (Array.getElem?_eq_some_iff.1 ho).1
    have hunf : listed.getD i false = false := by rw [← listed_cases (by rw [hI.size]; exact hilt)]; exact hun
    have hrow := hrows i hilt
    rw [ho] at hrow
    simp only [Bool.and_eq_true, List.all_eq_true, decide_eq_true_eq, List.any_eq_true, Bool.or_eq_true, beq_iff_eq, List.contains_iff_mem] at hrow
    -- what i waits for has been listed
    have hD : ∀ k ∈ D.getD i [], listed.getD k false = true := by
      intro k hk
      obtain ⟨e, he, hek⟩ := hrow.2 k hk
      obtain ⟨ed, hed, rfl⟩ := List.mem_map.1 he
      obtain ⟨hed1, hed2⟩ := List.mem_filter.1 hed
      have hl := hedges ed (by simpa using hed1) hed2
      rcases hek with rfl | hek
      · exact hl
      · exact hI.closed _ hl k hek
    have hcan : fillL y (canonL ops D i) a0 = a := by
      rw [hI.act]
      refine fillL_filter y _ _ a0 hkeys ?_
      rintro ⟨d, j⟩ hq hp
      simp only [Bool.not_eq_false', Bool.or_eq_true, beq_iff_eq] at hp
      have hdst := mem_pairsOf.1 hq
      refine hI.open_ j d ?_ hdst
      rcases hp with rfl | hw
      · exact hun
      · have hjlt : j < listed.size := by
          rw [hI.size]
          rcases Nat.lt_or_ge j ops.size with h' | h'
          · exact h'
          · rw [Array.getElem?_eq_none h'] at hdst; cases hdst
        rw [listed_cases hjlt]
        cases hl : listed.getD j false with
        | false => rfl
        | true =>
          have := hI.closed j hl i (by simpa [waits] using hw)
          rw [hunf] at this
          cases this
    have hw := hop i o ho y w hI.grown (fun j hj => hI.facts j (hD j hj)) (fun a' w' => ∃ v, a' = a.put o.dst v ∧ R w w' ∧ Φ i v w')
    rw [hcan] at hw
    have hlen' : ((List.range ops.size).filter fun j => !(listed.setIfInBounds i true).getD j true).length ≤ fuel := by
      have : ((List.range ops.size).filter fun j => !(listed.setIfInBounds i true).getD j true).length < ((List.range ops.size).filter fun j => !listed.getD j true).length := by
        refine filter_lt _ i (fun j hj => ?_) (List.mem_range.2 hilt) (by rw [hun]; rfl) ?_
        · by_cases hij : i = j
          · subst hij
            have h2 : i < listed.size := by rw [hI.size]; exact hilt
            simp [h2] at hj
          · rw [getD_set_ne true hij] at hj; exact hj
        · have h2 : i < listed.size := by rw [hI.size]; exact hilt
          simp [h2]
      omega
    have hnext : ∀ v w', R w w' → Φ i v w' → wpAny P .any ops Q fuel (listed.setIfInBounds i true) (a.put o.dst v) w' := by
      intro v w' hr hφ
      have h2 : i < listed.size := by rw [hI.size]; exact hilt
      refine ih _ _ _ (fun k => if k = i then v else y k) hlen' ⟨by simp [hI.size], ?_, hRt hI.grown hr, ?_, ?_, ?_⟩
      · cases hd : o.dst with
        | none =>
          rw [hI.act]
          show fillL y (pairsOf ops) a0 = _
          refine fillL_congr _ _ _ _ fun p hp => ?_
          have := mem_pairsOf.1 (show (p.1, p.2) ∈ pairsOf ops from hp)
          have hne : p.2 ≠ i := fun he => by rw [he, ho] at this; simp [hd] at this
          simp [hne]
        | some d =>
          rw [hI.act, fillL_set y i v _ a0 d hkeys (mem_pairsOf.2 (by simp [ho, hd]))]
      · intro j hj
        by_cases hji : j = i
        · subst hji; simpa using hφ
        · simp only [hji, if_false]
          rw [getD_set_ne false (Ne.symm hji)] at hj
          exact hst j _ _ _ hr (hI.facts j hj)
      · intro j d hj hdst
        have hji : j ≠ i := fun he => by subst he; simp [h2] at hj
        simp only [hji, if_false]
        rw [getD_set_ne true (Ne.symm hji)] at hj
        exact hI.open_ j d hj hdst
      · intro j hj k hk
        by_cases hji : j = i
        · subst hji; exact getD_set_true (hD k hk)
        · rw [getD_set_ne false (Ne.symm hji)] at hj
          exact getD_set_true (hI.closed j hj k hk)
    unfold wpOp
    simp only [ho]
    have hw2 := hw (fun v w' hr hφ => ⟨v, rfl, hr, hφ⟩)
    split at hw2
    · rename_i hwa
      rw [if_pos hwa]
      refine .inl ?_
      have h3 : o.wp P a w (wpAny P .any ops Q fuel (listed.setIfInBounds i true)) (fun _ _ _ => False) :=
        Oper.wp_mono (fun a' w' ⟨v, he, hr, hφ⟩ => by subst he; exact hnext v w' hr hφ) hw2
      exact wp_exit h3
    · rename_i hwa
      rw [if_neg hwa]
      obtain ⟨v, he, hr, hφ⟩ := hw2
      rw [he]
      exact hnext v w hr hφ
where
  wp_exit {o : Oper} {a : Act} {w : World} {K : Act → World → Prop} {Q : Exit → Act → World → Prop} (h : o.wp P a w K (fun _ _ _ => False)) : o.wp P a w K Q := by
    unfold Oper.wp at *
    generalize (execOp a.eval o).run P w = r at *
    cases r with
    | ok n w' =>
      cases n <;> simp only [Oper.upon] at h ⊢
      case enter f args =>
        refine Calls.mono h fun e w'' he => ?_
        cases e with
        | returned v => exact he
        | panicked c => exact he.elim
        | outgrown => obtain ⟨_, _, hq⟩ := he; exact hq.elim
      all_goals exact h
    | halt x w' => cases x <;> simp only [Oper.upon] at h

/-- **A region that draws its order, by facts.** -/
theorem wp_region_facts {id : Nat} {a0 : Act} {w0 : World} {Q : Exit → Act → World → Prop} (R : World → World → Prop) (D : Array (List Nat)) (Φ : Nat → Value → World → Prop) (hm : P.follows .mixedOrders = true)
    (hRt : ∀ {a b c : World}, R a b → R b c → R a c) (hrr : ∀ w, R w w) (hd : R w0 w0.drew) (hchk : factsOK ops D = true) (hst : ∀ j v w w', R w w' → Φ j v w → Φ j v w')
    (hop : allWords (opWord P ops R D Φ a0 w0) 0 ops.toList)
    (hfin : ∀ y w, R w0 w → (∀ j, j < ops.size → Φ j (y j) w) → Q .normal (fillL y (pairsOf ops) a0) w) : (Code.region id ops true).wp P Q a0 w0 := by
  refine wp_region_any hm ?_
  refine wpAny_of_facts (R := R) (D := D) (Φ := Φ) (a0 := a0) (w0 := w0) hRt hchk hst hrr (fun i o ho => ?_) hfin ops.size _ a0 _ (fun j => match (ops[j]?).bind (·.dst) with | some d => a0.tmps.getD d undef | none => undef) ?_ ⟨by simp, ?_, hd, ?_, ?_, ?_⟩
  · have := allWords_get _ 0 i o hop (by simpa using ho)
    simpa using this
  · exact Nat.le_trans (List.length_filter_le _ _) (by simp)
  · symm
    have : ∀ (L : List (Nat × Nat)), (∀ p ∈ L, (ops[p.2]?).bind (·.dst) = some p.1) → fillL (fun j => match (ops[j]?).bind (·.dst) with | some d => a0.tmps.getD d undef | none => undef) L a0 = a0 := by
      intro L
      induction L with
      | nil => intro _; rfl
      | cons p L ih =>
        intro h
        obtain ⟨d, j⟩ := p
        have hd := h (d, j) (by simp)
        simp only at hd
        show fillL _ L (a0.put (some d) _) = a0
        simp only [hd]
        rw [put_self]
        exact ih (fun p hp => h p (by simp [hp]))
    exact this _ (fun p hp => mem_pairsOf.1 hp)
  · intro j hj
    have h : (Array.replicate ops.size false).getD j false = false := by
      simp [Array.getD]
    rw [h] at hj; cases hj
  · intro j d _ hdst
    simp only [hdst]
    exact put_self a0 d
  · intro j hj
    have h : (Array.replicate ops.size false).getD j false = false := by
      simp [Array.getD]
    rw [h] at hj; cases hj


/-! ### the same with written-out tables -/
/-- Equality with a value, as a fact. -/
def Is (v : Value) (u : Value) (_ : World) : Prop := u = v

def depsH (Φ : List (Value → World → Prop)) (y : Nat → Value) (w : World) : List Nat → Prop
  | [] => True
  | j :: r => Φ.getD j (fun _ _ => True) (y j) w ∧ depsH Φ y w r
theorem depsH_of {Φ : List (Value → World → Prop)} {y : Nat → Value} {w : World} : ∀ (d : List Nat), (∀ j ∈ d, Φ.getD j (fun _ _ => True) (y j) w) → depsH Φ y w d
  | [], _ => trivial
  | j :: r, h => ⟨h j (by simp), depsH_of r (fun k hk => h k (by simp [hk]))⟩
def stL (R : World → World → Prop) : List (Value → World → Prop) → Prop
  | [] => True
  | φ :: r => (∀ v w w', R w w' → φ v w → φ v w') ∧ stL R r
theorem stL_mem {R : World → World → Prop} : ∀ (Φ : List (Value → World → Prop)), stL R Φ → ∀ φ ∈ Φ, ∀ v w w', R w w' → φ v w → φ v w'
  | φ :: r, h, ψ, hm => by
    rcases List.mem_cons.1 hm with e | e
    · subst e; exact h.1
    · exact stL_mem r h.2 ψ e
theorem is_st {R : World → World → Prop} {x : Value} : ∀ v w w', R w w' → Is x v w → Is x v w' := fun _ _ _ _ h => h
/-- All facts, one behind the other. -/
def factsH (y : Nat → Value) (w : World) : Nat → List (Value → World → Prop) → Prop
  | _, [] => True
  | i, φ :: r => φ (y i) w ∧ factsH y w (i + 1) r
theorem factsH_of {Φ0 : List (Value → World → Prop)} {y : Nat → Value} {w : World} : ∀ (Φ : List (Value → World → Prop)) (i : Nat), (∀ k, Φ[k]? = Φ0[i + k]?) → (∀ j, j < i + Φ.length → Φ0.getD j (fun _ _ => True) (y j) w) → factsH y w i Φ
  | [], _, _, _ => trivial
  | φ :: r, i, h, hj => by
    refine ⟨?_, factsH_of r (i + 1) (fun k => ?_) (fun j hj' => hj j (by simp; omega))⟩
    · have h0 := hj i (by simp)
      have := h 0
      simp at this
      simpa [List.getD_eq_getElem?_getD, ← this] using h0
    · have := h (k + 1)
      simp at this
      rw [this]; congr 1; omega

def word (P : Program) (ops : Array Oper) (R : World → World → Prop) (Φ : List (Value → World → Prop)) (a0 : Act) (w0 : World) (i : Nat) (o : Oper) (d : List Nat) (c : List (Nat × Nat)) : Prop :=
  ∀ (y : Nat → Value) (w : World), R w0 w → depsH Φ y w d → ∀ K : Act → World → Prop,
    (∀ a' v w', a' = (fillL y c a0).put o.dst v → R w w' → Φ.getD i (fun _ _ => True) v w' → K a' w') →
    if Region.wanted o (yielded ops (fillL y c a0).tmps) then o.wp P (fillL y c a0) w K (fun _ _ _ => False) else K ((fillL y c a0).put o.dst undef) w

def allW (P : Program) (ops : Array Oper) (R : World → World → Prop) (Φ : List (Value → World → Prop)) (a0 : Act) (w0 : World) : Nat → List Oper → List (List Nat) → List (List (Nat × Nat)) → Prop
  | _, [], _, _ => True
  | i, o :: r, d :: ds, c :: cs => word P ops R Φ a0 w0 i o d c ∧ allW P ops R Φ a0 w0 (i + 1) r ds cs
  | _, _ :: _, _, _ => False

def tablesOK (ops : Array Oper) (D : List (List Nat)) (C : List (List (Nat × Nat))) (F : List (Nat × Nat)) : Bool :=
  factsOK ops D.toArray && (decide (F = pairsOf ops)) && (List.range ops.size).all fun i => decide (C.getD i [] = canonL ops D.toArray i)

theorem allW_words {R : World → World → Prop} {Φ : List (Value → World → Prop)} {a0 : Act} {w0 : World} (D0 : List (List Nat)) (C0 : List (List (Nat × Nat))) (hC : ∀ i, i < ops.size → C0.getD i [] = canonL ops D0.toArray i) :
    ∀ (l : List Oper) (i : Nat) (D : List (List Nat)) (C : List (List (Nat × Nat))), i + l.length = ops.size → (∀ k, D[k]? = D0[i + k]?) → (∀ k, C[k]? = C0[i + k]?) → allW P ops R Φ a0 w0 i l D C →
      allWords (opWord P ops R D0.toArray (fun j => Φ.getD j (fun _ _ => True)) a0 w0) i l := by
  intro l
  induction l with
  | nil => intros; trivial
  | cons o r ih =>
    intro i D C hl hD hC' h
    match D, C, h with
    | d :: ds, c :: cs, h =>
      obtain ⟨h1, h2⟩ := h
      refine ⟨?_, ih (i + 1) ds cs (by simp at hl; omega) (fun k => ?_) (fun k => ?_) h2⟩
      · have hd : D0.toArray.getD i [] = d := by
          have := hD 0
          simp at this
          simp [Array.getD_eq_getD_getElem?, ← this]
        have hc : canonL ops D0.toArray i = c := by
          rw [← hC i (by simp at hl; omega)]
          have := hC' 0
          simp at this
          simp [List.getD_eq_getElem?_getD, ← this]
        intro y w hR hj K hK
        rw [hd] at hj
        rw [hc] at hK ⊢
        exact h1 y w hR (depsH_of _ hj) K (fun a' v w' he hr hφ => by subst he; exact hK v w' hr hφ)
      · have := hD (k + 1)
        simp at this
        rw [this]; congr 1; omega
      · have := hC' (k + 1)
        simp at this
        rw [this]; congr 1; omega

/-- **A region that draws its order, by facts, the tables written out.** -/
theorem wp_region_tables {id : Nat} {a0 : Act} {w0 : World} {Q : Exit → Act → World → Prop} (R : World → World → Prop) (D : List (List Nat)) (C : List (List (Nat × Nat))) (F : List (Nat × Nat)) (Φ : List (Value → World → Prop)) (hm : P.follows .mixedOrders = true)
    (hRt : ∀ {a b c : World}, R a b → R b c → R a c) (hrr : ∀ w, R w w) (hd : R w0 w0.drew) (hchk : tablesOK ops D C F = true) (hst : stL R Φ)
    (hop : allW P ops R Φ a0 w0 0 ops.toList D C)
    (hlen : Φ.length = ops.size)
    (hfin : ∀ y w, R w0 w → factsH y w 0 Φ → Q .normal (fillL y F a0) w) : (Code.region id ops true).wp P Q a0 w0 := by
  simp only [tablesOK, Bool.and_eq_true, decide_eq_true_eq, List.all_eq_true, List.mem_range] at hchk
  obtain ⟨⟨h1, h2⟩, h3⟩ := hchk
  subst h2
  refine wp_region_facts R D.toArray (fun j => Φ.getD j (fun _ _ => True)) hm hRt hrr hd h1 ?_ (allW_words D C h3 ops.toList 0 D C (by simp) (by simp) (by simp) hop) (fun y w hr hj => hfin y w hr (factsH_of Φ 0 (by simp) (fun j h => hj j (by rw [← hlen]; simpa using h))))
  intro j v w w' hr hφ
  rcases Nat.lt_or_ge j Φ.length with hj | hj
  · have e : Φ.getD j (fun _ _ => True) = Φ[j] := by simp [List.getD_eq_getElem?_getD, hj]
    rw [e] at hφ ⊢
    exact stL_mem Φ hst _ (List.getElem_mem hj) v w w' hr hφ
  · have e : Φ.getD j (fun _ _ => True) = fun _ _ => True := by simp [List.getD_eq_getElem?_getD, hj]
    rw [e]; trivial

end
end Go.Proofs.Ytlhliolknaopjaa

/-
  Plain lemmas over any program: small laws that the walks of this claim use beside the kit's. Conditions: each states its own.
-/
namespace Go.Proofs.Ytlhliolknaopjaa
set_option linter.unusedSimpArgs false
set_option linter.unusedVariables false
open Go Go.RowKit

theorem ret_bool {a b : Bool} (h : a = b) : Ending.returned (.bool a) = .returned (.bool b) := by rw [h]

section
variable {P : Program}

theorem wpList_build_eq {ops : Array Oper} {rest : List Oper} {o : Oper} {a : Act} {w : World} {Q : Exit → Act → World → Prop} (hg : o.guard = none) (t : TypeId) (parts : Array (Nat × Operand)) (ho : o.op = .build t parts)
    (cells : Array Value) (hf : P.built t (parts.map fun (i, x) => (i, a.eval x)).toList = some cells)
    (h : wpList P ops Q rest (a.put o.dst (.agg cells)) w) : wpList P ops Q (o :: rest) a w :=
  wpList_build hg t parts ho (by rw [hf]; rfl) (by rw [hf]; exact h)

/-- 'a[i]' of an array value whose elements are structs of sz cells. -/
theorem run_index_agg (t e : TypeId) (n sz : Nat) (cs : Array Value) (k : IntKind) (i : Int) (w : World) (h : P.underlying t = some (.array n e))
    (he : (isAgg e).run P w = .ok true w) (hs : (P.info? e).map (·.size) = some sz) (h0 : 0 ≤ i) (h1 : i < n) :
    (Instr.index t (.agg cs) (.int k i)).run P w = .ok (.agg (cs.extract (i.toNat * sz) (i.toNat * sz + sz))) w := by
  have hn : 0 ≤ i ∧ i < (n : Int) := ⟨h0, h1⟩
  cases hq : P.info? e with
  | none => simp [hq] at hs
  | some ie =>
    have hsz : ie.size = sz := by simpa [hq] using hs
    have hso : (sizeOf e).run P w = .ok sz w := by simp [sizeOf, typeInfo, hq, hsz]
    unfold Instr.index
    simp only [asIntOf, Sem.run_bind, Sem.run_pure, Result.andThen_ok, run_underlying h, hn, and_self, if_true, hso, part, he]

/-- The world behind a store of a whole row into the newest block. -/
theorem setRow_alloc (w : World) (cs old : Array Value) (t : TypeId) (fr : Nat × Nat) : (w.alloc (.cells old t fr)).setRow w.heap.size cs = w.alloc (.cells cs t fr) := by
  unfold World.setRow World.alloc
  simp only [World.mk.injEq, and_true, true_and]
  apply Array.ext
  · simp
  · intro i h1 h2
    rw [Array.getElem_modify]
    split
    · rename_i he; subst he; simp
    · rename_i he
      simp at h1 h2
      rw [Array.getElem_push_lt (by omega), Array.getElem_push_lt (by omega)]

end

end Go.Proofs.Ytlhliolknaopjaa

/-
  The buffer in memory: what a world holds of it, which blocks a call may turn, and the contracts of the small calls (none, Err, Len, fail).
-/
namespace Go.Proofs.Ytlhliolknaopjaa
open Go Go.ChangeShapes Go.WideShapes Go.ChangeAt Go.RowKit Go.Joins
open Go.ChangeMaps (open_string shut_string)
set_option linter.unusedVariables false
set_option linter.unusedSimpArgs false

theorem Grew.drewN {a w : World} (h : Grew a w) (n : Nat) : Grew a (w.drewN n) := by
  have h2 : Below a.heap.size a w := h
  exact ⟨h2.os, h2.tape, h2.output, h2.size, h2.block⟩
/-- Old blocks outside S are as they were. -/
structure Moved (S : Nat → Prop) (w w' : World) : Prop where
  os : w'.os = w.os
  tape : w'.tape = w.tape
  output : w'.output = w.output
  size : w.heap.size ≤ w'.heap.size
  block : ∀ k, k < w.heap.size → ¬ S k → w'.heap[k]? = w.heap[k]?

namespace Moved
variable {S T : Nat → Prop} {a b c w w' : World}
theorem refl (S : Nat → Prop) (w : World) : Moved S w w := ⟨rfl, rfl, rfl, Nat.le_refl _, fun _ _ _ => rfl⟩
theorem trans (h : Moved S a b) (k : Moved T b c) (hT : ∀ j, j < a.heap.size → T j → S j) : Moved S a c :=
  ⟨k.os.trans h.os, k.tape.trans h.tape, k.output.trans h.output, Nat.le_trans h.size k.size,
   fun j hj hS => (k.block j (Nat.lt_of_lt_of_le hj h.size) (fun ht => hS (hT j hj ht))).trans (h.block j hj hS)⟩
theorem trans' (h : Moved S a b) (k : Moved S b c) : Moved S a c := h.trans k (fun _ _ h => h)
theorem mono (h : Moved S a b) (hS : ∀ j, j < a.heap.size → S j → T j) : Moved T a b := ⟨h.os, h.tape, h.output, h.size, fun j hj hT => h.block j hj (fun hs => hT (hS j hj hs))⟩
theorem of_grew (h : Grew a b) : Moved S a b := ⟨h.os, h.tape, h.output, h.size, fun k hk _ => h.block k hk⟩
theorem grew (h : Moved S a b) (k : Grew b c) : Moved S a c := h.trans (of_grew (S := fun _ => False) k) (fun _ _ h => h.elim)
theorem of_grown {row : Option Nat} (h : w.grownBy w' row) : Moved (fun k => some k = row) w w' := ⟨h.os, h.tape, h.output, h.size, h.block⟩
theorem alloc (h : Moved S a w) (o : Obj) : Moved S a (w.alloc o) := h.grew ((Grew.refl w).alloc o)
theorem setCell (h : Moved S a w) {p : Addr} (hp : p.block < a.heap.size → S p.block) (u : Value) : Moved S a (w.setCell p u) :=
  h.trans (T := fun k => k = p.block) ⟨rfl, rfl, rfl, by simp [World.setCell], fun k _ hk => Below.heap_setCell _ _ _ _ hk⟩ (fun j hj e => e ▸ hp (e ▸ hj))
theorem drew (h : Moved S a w) : Moved S a w.drew := ⟨h.os, h.tape, h.output, h.size, h.block⟩
theorem below {B : Nat} (h : Moved S a b) (hB : B ≤ a.heap.size) (hS : ∀ k, S k → B ≤ k) : Below B a b :=
  ⟨h.os, h.tape, h.output, h.size, fun k hk => h.block k (by omega) (fun hs => by have := hS k hs; omega)⟩
theorem heap (h : Moved S w w') {k : Nat} {o : Obj} (hk : w.heap[k]? = some o) (hS : ¬ S k) : w'.heap[k]? = some o :=
  (h.block k (Array.getElem?_eq_some_iff.1 hk).1 hS).trans hk
theorem cell (h : Moved S w w') {p : Addr} {v : Value} (hc : w.cell? p = some v) (hS : ¬ S p.block) : w'.cell? p = some v :=
  (World.cell?_of_block (h.block p.block (World.block_lt_of_cell? w p hc) hS)).trans hc
theorem owns (h : Moved S w w') {B : Nat} {e : TypeId} {size : Nat} {v : Value} {n : Nat} {xs : List Value} (ho : w.ownsRow B e size v n xs) (hS : ∀ k, v.ownBlock = some k → ¬ S k) : w'.ownsRow B e size v n xs := by
  obtain ⟨h1, h2⟩ := ho
  refine ⟨h1, ?_⟩
  rcases h2 with h2 | ⟨g, cap, cur, rfl, hb, hg, r⟩
  · exact .inl h2
  · exact .inr ⟨g, cap, cur, rfl, hb, h.heap hg (hS g rfl), r⟩
end Moved

/-- The blocks of one buffer: its own and its row's. -/
def Own2 (p : Nat) (o : Option Nat) (k : Nat) : Prop := k = p ∨ some k = o
/-- The row is the old one, or a new block, or none. -/
def Next (w : World) (o o' : Option Nat) : Prop := ∀ k, o' = some k → o = some k ∨ w.heap.size ≤ k
theorem Next.refl (w : World) (o : Option Nat) : Next w o o := fun _ h => .inl h
theorem Next.fresh {w : World} {o : Option Nat} {j : Nat} (h : w.heap.size ≤ j) : Next w o (some j) := fun k e => by cases e; exact .inr h
theorem Next.trans {w w' : World} {o o1 o2 : Option Nat} (h : Next w o o1) (k : Next w' o1 o2) (hs : w.heap.size ≤ w'.heap.size) : Next w o o2 := fun j e => by
  rcases k j e with h1 | h1
  · exact h j h1
  · exact .inr (by omega)
/-- What a call on a buffer may turn. -/
theorem Moved.own {p : Nat} {o o' : Option Nat} {a b c : World} (h : Moved (Own2 p o) a b) (hn : Next a o o') (k : Moved (Own2 p o') b c) : Moved (Own2 p o) a c :=
  h.trans k fun j hj hs => by
    rcases hs with rfl | hs
    · exact .inl rfl
    · rcases hn j hs.symm with h1 | h1
      · exact .inr h1.symm
      · omega

section
variable {B : Nat} {w w' : World} {p : Nat} {o : Option Nat} {l : List UInt8} {most e : Int}
theorem row_form {t : TypeId} {v : Value} (h : w.ownsRow B t 1 v l.length (Lib.byteCells l)) : ∃ a c, v = .slice a l.length c ∧ l.length ≤ c ∧ (a = none → c = 0) := by
  rcases h.2 with ⟨rfl, hn⟩ | ⟨g, cap, cur, rfl, _, _, hn, _⟩
  · exact ⟨none, 0, by rw [hn], by omega, fun _ => rfl⟩
  · exact ⟨_, cap, rfl, hn, fun h => by cases h⟩
theorem row_frozen {cs : Array Value} {t : TypeId} (h : w.heap[p]? = some (.cells cs t (0, 0))) (k : Nat) : w.frozen? ⟨p, k, none⟩ = false := by
  unfold World.frozen?
  simp only [h]
  simp
end
abbrev bptr (p : Nat) : Value := .pointer (some ⟨p, 0, none⟩)

end Go.Proofs.Ytlhliolknaopjaa

/-
  The buffer's put: the error stays, or the capacity is spent, or the bytes are appended.
-/
namespace Go.Proofs.Ytlhliolknaopjaa
open Go Go.ChangeShapes Go.WideShapes Go.ChangeAt Go.RowKit Go.Joins
set_option linter.unusedVariables false
set_option linter.unusedSimpArgs false

/-- A byte slice that reads as x. -/
def BytesAt (w : World) (v : Value) (x : List UInt8) : Prop :=
  ∃ a c, v = .slice a x.length c ∧ x.length ≤ c ∧ (a = none → c = 0) ∧ ∀ (i : Nat) (b : UInt8), x[i]? = some b → ∃ bl off, a = some ⟨bl, off, none⟩ ∧ w.cell? ⟨bl, off + i, none⟩ = some (.int .u8 b.toNat)
theorem BytesAt.grew {w w' : World} {v : Value} {x : List UInt8} (h : BytesAt w v x) (hg : Grew w w') : BytesAt w' v x := by
  obtain ⟨a, c, h1, h2, h3, h4⟩ := h
  refine ⟨a, c, h1, h2, h3, fun i b hb => ?_⟩
  obtain ⟨bl, off, e, hc⟩ := h4 i b hb
  exact ⟨bl, off, e, hg.cell hc⟩
theorem BytesAt.nil (w : World) : BytesAt w (.slice none 0 0) [] := ⟨none, 0, rfl, Nat.le_refl _, fun _ => rfl, by simp⟩
theorem BytesAt.of_own {w : World} {B : Nat} {t : TypeId} {v : Value} {l : List UInt8} (h : w.ownsRow B t 1 v l.length (Lib.byteCells l)) : BytesAt w v l := by
  have h0 := h
  obtain ⟨_, h2⟩ := h
  rcases h2 with ⟨rfl, hn⟩ | ⟨g, cap, cur, rfl, _, _, hn, _⟩
  · have : l = [] := List.length_eq_zero_iff.1 hn
    subst this
    exact BytesAt.nil w
  · refine ⟨some ⟨g, 0, none⟩, cap, rfl, hn, (fun h => by cases h), fun i b hb => ⟨g, 0, rfl, ?_⟩⟩
    have hi := (List.getElem?_eq_some_iff.1 hb).1
    rw [Nat.zero_add, World.ownsRow.cellAt h0 i (by omega)]
    simp [Lib.byteCells, hb]

theorem Try.infoByte : (Try.prog.info? 5).map (fun i => (i.zero, i.size, i.bytes)) = some (some (.int .u8 0), 1, 1) := by kernel_rfl
theorem byte_parts : ∃ i0, Try.prog.info? 5 = some i0 ∧ i0.zero = some (.int .u8 0) ∧ i0.size = 1 ∧ i0.bytes = 1 := by
  have h := Try.infoByte
  cases hq : Try.prog.info? 5 with
  | none => simp [hq] at h
  | some i => simp [hq] at h; exact ⟨i, rfl, h.1, h.2.1, h.2.2⟩

/-- Behind an append the row is the old one or a new block. -/
theorem append_next {P : Program} (w : World) (base : Nat) (t ty e : TypeId) (i : TypeInfo) (z : Value) (size bytes : Nat) (ht : P.underlying t = some (.slice e)) (hi : P.info? e = some i) (hz : i.zero = some z)
    (hsize : i.size = size) (hby : i.bytes = bytes) (hzs : z.cells.size = size) (hsz : 0 < size)
    (v : Value) (n : Nat) (xs : List Value) (hown : w.ownsRow base e size v n xs)
    (a : Addr) (m c : Nat) (news : List Value) (hl : news.length = m * size) (hnews : ∀ j u, news[j]? = some u → w.cell? (a.add j) = some u) (h1 : ∀ u ∈ news, u.oneCell' = true)
    (h63 : n + m ≤ maxLen) (hbytes : (n + m) * bytes ≤ 140737488355328) (hbase : base ≤ w.heap.size) :
    ∃ v' w', (Builtin.append_ #[t, t] ty #[v, .slice (some a) m c]).run P w = .ok v' w' ∧ w'.ownsRow base e size v' (n + m) (xs ++ news) ∧ w.grownBy w' v.ownBlock ∧ Next w v.ownBlock v'.ownBlock := by
  obtain ⟨v', w', hr, h2, h3, h4⟩ := run_append_own (P := P) w base t ty e i z size bytes ht hi hz hsize hby hzs hsz v n xs hown a m c news hl hnews h1 h63 hbytes hbase
  refine ⟨v', w', hr, h2, h3, ?_⟩
  subst hsize
  subst hby
  have h64 : n + m ≤ 9223372036854775807 := by simp only [maxLen] at h63; omega
  rcases hown.2 with ⟨rfl, rfl⟩ | ⟨g, cap, cur, rfl, hbg, hg, hnc, hcm, hcs, htake⟩
  · by_cases hm : m = 0
    · rw [h4.2 ⟨rfl, hm⟩]; exact Next.refl _ _
    · have hr2 := run_append_nil (P := P) w t ty e i z ht hi hz a m c news hl hnews (by omega) (by omega) (by have hb := hbytes; simp only [Nat.zero_add] at hb; omega)
      rw [hr] at hr2
      injection hr2 with e1 e2
      subst e1
      exact Next.fresh (Nat.le_refl _)
  · by_cases hroom : n + m ≤ cap
    · have hfit : n * i.size + news.length ≤ cur.size := by rw [hl, hcs, ← Nat.add_mul]; exact Nat.mul_le_mul_right _ hroom
      have hr2 := run_append_room (P := P) w t ty e i ht hi g n cap cur hg a m c news hl hnews h1 hroom hfit
      rw [hr] at hr2
      injection hr2 with e1 e2
      subst e1
      exact Next.refl _ _
    · have holds : ∀ j u, xs[j]? = some u → w.cell? ((⟨g, 0, none⟩ : Addr).add j) = some u := hown.cells (g := g) rfl
      have hr2 := run_append_grow (P := P) w t ty e i z ht hi hz ⟨g, 0, none⟩ n cap xs hown.1 holds a m c news hl hnews (by omega) (by omega) (growslice_fits (by omega) hbytes)
      rw [hr] at hr2
      injection hr2 with e1 e2
      subst e1
      exact Next.fresh (Nat.le_refl _)

theorem wpList_appendB {ops : Array Oper} {rest : List Oper} {o : Oper} {a : Act} {w : World} {Q : Exit → Act → World → Prop} (hgd : o.guard = none) (s x : Operand)
    (ho : o.op = .call { callee := .builtin .append, args := #[s, x], argTypes := #[22, 22] }) (B : Nat) (v : Value) (l : List UInt8) (hs : a.eval s = v) (hown : w.ownsRow B 5 1 v l.length (Lib.byteCells l))
    (sv : Value) (l2 : List UInt8) (hx : a.eval x = sv) (hsv : BytesAt w sv l2) (hlen : l.length + l2.length ≤ 1099511627776) (hB : B ≤ w.heap.size)
    (h : ∀ v' w', w'.ownsRow B 5 1 v' (l ++ l2).length (Lib.byteCells (l ++ l2)) → w.grownBy w' v.ownBlock → Next w v.ownBlock v'.ownBlock → wpList Try.prog ops Q rest (a.put o.dst v') w') : wpList Try.prog ops Q (o :: rest) a w := by
  obtain ⟨i0, hi, hz0, hz1, hz2⟩ := byte_parts
  obtain ⟨sa, cap, rfl, hcap, hnil, hc⟩ := hsv
  cases sa with
  | none =>
    have h0 : l2 = [] := by
      cases l2 with
      | nil => rfl
      | cons y r => obtain ⟨b, off, e, _⟩ := hc 0 y rfl; cases e
    subst h0
    have := hnil rfl
    subst this
    refine wpList_append_own_none hgd s x 22 ho B 5 i0 1 Try.underlying22 hi v l.length _ hs hown hx ?_
    exact h v w (by rw [List.append_nil]; exact hown) ⟨rfl, rfl, rfl, Nat.le_refl _, fun _ _ _ => rfl⟩ (Next.refl _ _)
  | some ad =>
    have hcells : ∀ j u, (Lib.byteCells l2)[j]? = some u → w.cell? (ad.add j) = some u := by
      intro j u hj
      simp only [Lib.byteCells, List.getElem?_map, Option.map_eq_some_iff] at hj
      obtain ⟨b, hb, rfl⟩ := hj
      obtain ⟨bl, off, e, hcell⟩ := hc j b hb
      cases e
      have : (⟨bl, off, none⟩ : Addr).add j = ⟨bl, off + j, none⟩ := by
        unfold Addr.add
        split
        · rename_i h; subst h; rfl
        · rfl
      rw [this]; exact hcell
    have hone : ∀ u ∈ Lib.byteCells l2, u.oneCell' = true := by
      intro u hu
      simp only [Lib.byteCells, List.mem_map] at hu
      obtain ⟨b, _, rfl⟩ := hu
      rfl
    obtain ⟨v', w', hr, h2, h3, h4⟩ := append_next (P := Try.prog) w B 22 o.type 5 i0 (.int .u8 0) 1 1 Try.underlying22 hi hz0 hz1 hz2 rfl (by decide) v l.length _ hown ad l2.length cap (Lib.byteCells l2) (by simp [Lib.byteCells]) hcells hone (by unfold maxLen; omega) (by omega) hB
    refine wpList_plain hgd fun _ hK => Lib.wp_append_run w s x 22 22 ho v _ hs hx v' w' hr (hK _ _ (h v' w' ?_ h3 h4))
    rw [List.length_append, show Lib.byteCells (l ++ l2) = Lib.byteCells l ++ Lib.byteCells l2 by simp [Lib.byteCells]]
    exact h2

end Go.Proofs.Ytlhliolknaopjaa

/-
  The buffer's Cut, and the copy of its contents (Bytes).
-/
namespace Go.Proofs.Ytlhliolknaopjaa
open Go Go.ChangeShapes Go.WideShapes Go.ChangeAt Go.RowKit Go.Joins
set_option linter.unusedVariables false
set_option linter.unusedSimpArgs false

end Go.Proofs.Ytlhliolknaopjaa

/-
  The copy of a byte slice (slices.Clone) and the buffer's Bytes.
-/
namespace Go.Proofs.Ytlhliolknaopjaa
open Go Go.ChangeShapes Go.WideShapes Go.ChangeAt Go.RowKit Go.Joins
set_option linter.unusedVariables false
set_option linter.unusedSimpArgs false

/-- A fresh row of bytes: of blocks from B on, which is w's size. -/
theorem cloneB_any (w : World) (v : Value) (x : List UInt8) (h : BytesAt w v x) (hl : x.length ≤ 1099511627776) :
    Calls Try.prog 24 #[v] w fun r w' => ∃ v', r = .returned v' ∧ w'.ownsRow w.heap.size 5 1 v' x.length (Lib.byteCells x) ∧ Grew w w' := by
  have HX := Lib.hid h
  obtain ⟨a, c, rfl, hc, hnil, _⟩ := h
  cases a with
  | none =>
    have h0 := hnil rfl
    subst h0
    have h1 : x = [] := List.length_eq_zero_iff.1 (by omega)
    subst h1
    have hq := fun W => Lib.run_eql_slice_nil_nil (P := Try.prog) W 0 0 Try.underlying22
    show Calls Try.prog 24 #[.slice none 0 0] w _
    go_enter Try.func24, Try.ntmps24
    go_wp2
    go_ret
    exact ⟨_, rfl, World.ownsRow_nil _ _ _ _, Grew.refl _⟩
  | some ad =>
    have hq := fun W => Lib.run_eql_slice_some_nil (P := Try.prog) W ad x.length c Try.underlying22
    have hown : Hid ((w.alloc (.cells #[] 5)).ownsRow w.heap.size 5 1 (.slice (some ⟨w.heap.size, 0, none⟩) 0 0) ([] : List UInt8).length (Lib.byteCells [])) :=
      World.ownsRow_made w #[] 0 (Nat.le_refl _) (by decide) rfl
    have HX2 := Lib.hid (HX.out.grew ((Grew.refl w).alloc (.cells #[] 5)))
    go_enter Try.func24, Try.ntmps24
    go_wp2_with (at_builtin; refine wpList_appendB rfl _ _ rfl w.heap.size (.slice (some ⟨w.heap.size, 0, none⟩) 0 0) [] rfl hown.out _ x rfl HX2.out (by simp; omega) (by simp) ?_; intro v' w3 hown2 hgr hqq; obtain ⟨va2, vc2, rfl, _, _⟩ := row_form hown2; have HO := Lib.hid (And.intro hown2 hgr); clear hown2 hgr hqq)
    go_ret
    refine ⟨_, rfl, by simpa using HO.out.1, ?_⟩
    have h1 : Below w.heap.size w (w.alloc (.cells #[] 5)) := (Grew.refl w).alloc _
    exact h1.grown HO.out.2 (by simp) (fun k hk => by cases hk; exact Nat.le_refl _)

end Go.Proofs.Ytlhliolknaopjaa

/-
  The reference buffer: fail, put, Cut, Bytes.
-/
namespace Go.Proofs.Ytlhliolknaopjaa
open Go Go.ChangeShapes Go.WideShapes Go.ChangeAt Go.RowKit Go.Joins
set_option linter.unusedVariables false
set_option linter.unusedSimpArgs false

end Go.Proofs.Ytlhliolknaopjaa

/-
  The reference buffer: the copy of bytes, Cut, Bytes.
-/
namespace Go.Proofs.Ytlhliolknaopjaa
open Go Go.ChangeShapes Go.WideShapes Go.ChangeAt Go.RowKit Go.Joins
set_option linter.unusedVariables false
set_option linter.unusedSimpArgs false

theorem copy_any (w : World) (v : Value) (x : List UInt8) (h : BytesAt w v x) (hl : x.length ≤ 1099511627776) :
    Calls Try.prog 17 #[v] w fun r w' => ∃ v', r = .returned v' ∧ w'.ownsRow w.heap.size 5 1 v' x.length (Lib.byteCells x) ∧ Grew w w' := by
  have HX := Lib.hid h
  obtain ⟨a, c, rfl, hc, hnil, _⟩ := h
  have hown : Hid (w.ownsRow w.heap.size 5 1 (.slice none 0 0) ([] : List UInt8).length (Lib.byteCells [])) := World.ownsRow_nil _ _ _ _
  go_enter Try.func17, Try.ntmps17
  go_wp2_with (at_builtin; refine wpList_appendB rfl _ _ rfl w.heap.size (.slice none 0 0) [] rfl hown.out _ x rfl HX.out (by simp; omega) (Nat.le_refl _) ?_; intro v' w3 hown2 hgr hqq; obtain ⟨va2, vc2, rfl, _, _⟩ := row_form hown2; have HO := Lib.hid (And.intro hown2 hgr); clear hown2 hgr hqq)
  go_ret
  refine ⟨_, rfl, by simpa using HO.out.1, ?_⟩
  exact (Below.refl w.heap.size w).grown HO.out.2 (Nat.le_refl _) (fun k hk => by cases hk)

end Go.Proofs.Ytlhliolknaopjaa

/-
  Widths: width.Code, the reference's width, le.is, le.fits.
-/
namespace Go.Proofs.Ytlhliolknaopjaa
open Go Go.ChangeShapes Go.WideShapes Go.ChangeAt Go.RowKit Go.Joins
set_option linter.unusedVariables false
set_option linter.unusedSimpArgs false

def isW (w : Int) : Bool := w == 1 || w == 2 || w == 4 || w == 8
theorem leis_any (x : Int) (w : World) :
    Calls Try.prog 113 #[.int .i64 x] w fun r w' => r = .returned (.bool (isW x)) ∧ w' = w := by
  go_enter Try.func113, Try.ntmps113
  by_cases h1 : x = 1
  · subst h1; go_wp2; go_ret; exact ⟨rfl, rfl⟩
  by_cases h2 : x = 2
  · subst h2; go_wp2; go_ret; exact ⟨rfl, rfl⟩
  by_cases h4 : x = 4
  · subst h4; go_wp2; go_ret; exact ⟨rfl, rfl⟩
  by_cases h8 : x = 8
  · subst h8; go_wp2; go_ret; exact ⟨rfl, rfl⟩
  go_wp2
  go_ret
  refine ⟨?_, rfl⟩
  simp [isW, h1, h2, h4, h8]

def codeE (x : Int) : Int := if isW x then 0 else 2
theorem code_any (x : Int) (w : World) :
    Calls Try.prog 23 #[.int .i64 x] w fun r w' => (∃ c, r = .returned (.tuple #[.int .i64 c, .int .i64 (codeE x)])) ∧ w' = w := by
  have hstep : ∀ k : Nat, (∀ j : Nat, j < k → x ≠ 2 ^ j) → x ≠ 2 ^ k → ∀ j : Nat, j < k + 1 → x ≠ 2 ^ j := by
    intro k h1 h2 j hj
    rcases (by omega : j < k ∨ j = k) with h | rfl
    · exact h1 j h
    · exact h2
  go_enter Try.func23, Try.ntmps23
  go_wp2_with fail
  go_loopw [5] (fun i wr => wr = w ∧ ∃ k : Nat, k ≤ 4 ∧ i = .int .i64 k ∧ Hid (∀ j : Nat, j < k → x ≠ 2 ^ j)) (fun i _ => 4 - (intOf i).toNat)
  case atStart => exact ⟨rfl, 0, by omega, rfl, fun j hj => by omega⟩
  case round =>
    obtain ⟨rfl, k, hk, rfl, HN⟩ := hrel
    by_cases hlt : k < 4
    · obtain rfl | rfl | rfl | rfl : k = 0 ∨ k = 1 ∨ k = 2 ∨ k = 3 := by omega
      · by_cases hx : x = 1
        · subst hx
          go_wp2
          go_ret2
          exact ⟨⟨_, rfl⟩, rfl⟩
        · go_wp2_with fail
          go_roundw
          case rel => exact ⟨trivial, 1, by omega, by go_num, hstep _ HN.out (by simpa using hx)⟩
          case measure => simp [intOf]
      · by_cases hx : x = 2
        · subst hx
          go_wp2
          go_ret2
          exact ⟨⟨_, rfl⟩, rfl⟩
        · go_wp2_with fail
          go_roundw
          case rel => exact ⟨trivial, 2, by omega, by go_num, hstep _ HN.out (by simpa using hx)⟩
          case measure => simp [intOf]
      · by_cases hx : x = 4
        · subst hx
          go_wp2
          go_ret2
          exact ⟨⟨_, rfl⟩, rfl⟩
        · go_wp2_with fail
          go_roundw
          case rel => exact ⟨trivial, 3, by omega, by go_num, hstep _ HN.out (by simpa using hx)⟩
          case measure => simp [intOf]
      · by_cases hx : x = 8
        · subst hx
          go_wp2
          go_ret2
          exact ⟨⟨_, rfl⟩, rfl⟩
        · go_wp2_with fail
          go_roundw
          case rel => exact ⟨trivial, 4, by omega, by go_num, hstep _ HN.out (by simpa using hx)⟩
          case measure => simp [intOf]
    · have e : k = 4 := by omega
      subst e
      have HX : Hid (codeE x = 2) := by
        show codeE x = 2
        have a0 := HN.out 0 (by omega)
        have a1 := HN.out 1 (by omega)
        have a2 := HN.out 2 (by omega)
        have a3 := HN.out 3 (by omega)
        simp at a0 a1 a2 a3
        simp [codeE, isW, a0, a1, a2, a3]
      go_wp2
      go_ret2
      exact ⟨⟨0, by rw [HX.out]; rfl⟩, rfl⟩

end Go.Proofs.Ytlhliolknaopjaa

/-
  Plain lemma, no program: as in Region; but the last operation, which waits for all others, may turn the world as it likes. Conditions: the dependency table passes a closed check.
-/
namespace Go.Proofs.Ytlhliolknaopjaa
set_option linter.unusedSimpArgs false
set_option linter.unusedVariables false
open Go Go.RowKit

section
variable {P : Program} {ops : Array Oper}

/-- Each operation but the last has one that waits for it. -/
def sinkOK (ops : Array Oper) : Bool :=
  (List.range (ops.size - 1)).all fun j => (List.range ops.size).any fun k => decide (j < k) && match ops[k]? with | some o => o.after.any fun e => Region.binds .any e && e.on == j | none => false

theorem wpAny_of_factsL {R : World → World → Prop} {D : Array (List Nat)} {Φ : Nat → Value → World → Prop} {a0 : Act} {w0 : World} {Q : Exit → Act → World → Prop}
    (hRt : ∀ {a b c : World}, R a b → R b c → R a c) (hchk : factsOK ops D = true) (hst : ∀ j v w w', R w w' → Φ j v w → Φ j v w') (hrr : ∀ w, R w w)
    (hop : ∀ i o, i + 1 < ops.size → ops[i]? = some o → opWord P ops R D Φ a0 w0 i o) (hpos : 0 < ops.size) (hsink : sinkOK ops = true)
    (hfin : ∀ o, ops[ops.size - 1]? = some o → ∀ y w, R w0 w → (∀ j, j + 1 < ops.size → Φ j (y j) w) → ∀ a, a = fillL y (canonL ops D (ops.size - 1)) a0 →
      if Region.wanted o (yielded ops a.tmps) then o.wp P a w (fun a' w' => Q .normal a' w') (fun _ _ _ => False) else Q .normal (a.put o.dst undef) w) :
    ∀ (fuel : Nat) (listed : Array Bool) (a : Act) (w : World) (y : Nat → Value), ((List.range ops.size).filter fun j => !listed.getD j true).length ≤ fuel →
      InvF ops R D Φ a0 w0 listed a w y → (∀ j o, ops[j]? = some o → listed.getD j false = true → ∀ e ∈ o.after, Region.binds .any e = true → listed.getD e.on false = true) → listed.getD (ops.size - 1) true = false → wpAny P .any ops Q fuel listed a w := by
  simp only [factsOK, Bool.and_eq_true, List.all_eq_true, List.mem_range] at hchk
  obtain ⟨hkeys, hrows⟩ := hchk
  -- nothing ready: all has been listed
  have hall : ∀ (listed : Array Bool), listed.size = ops.size → Region.ready .any ops listed = [] → ∀ j, j < ops.size → listed.getD j false = true := by
    intro listed hs hnil j
    induction j using Nat.strongRecOn with
    | ind j ih =>
      intro hj
      cases hl : listed.getD j false with
      | true => rfl
      | false =>
        exfalso
        have hmem : j ∈ Region.ready .any ops listed := by
          rw [mem_ready]
          refine ⟨by rw [listed_cases (by omega)]; exact hl, ops[j], Array.getElem?_eq_getElem hj, fun e he hb => ?_⟩
          have hrow := hrows j hj
          rw [Array.getElem?_eq_getElem hj] at hrow
          simp only [Bool.and_eq_true, List.all_eq_true, decide_eq_true_eq] at hrow
          have hlt := hrow.1 e.on (List.mem_map.2 ⟨e, List.mem_filter.2 ⟨by simpa using he, hb⟩, rfl⟩)
          exact ih e.on hlt (by omega)
        rw [hnil] at hmem
        cases hmem
  have hdone : ∀ (listed : Array Bool) (a : Act) (w : World) (y : Nat → Value), InvF ops R D Φ a0 w0 listed a w y → listed.getD (ops.size - 1) true = false → Region.ready .any ops listed = [] → Q .normal a w := by
    intro listed a w y hI hl hnil
    have := hall listed hI.size hnil (ops.size - 1) (by omega)
    rw [← listed_cases (by rw [hI.size]; omega), hl] at this
    cases this
  intro fuel
  induction fuel with
  | zero =>
    intro listed a w y hlen hI hE hL
    have hnil : Region.ready .any ops listed = [] := by
      have h0 : ((List.range ops.size).filter fun j => !listed.getD j true) = [] := List.length_eq_zero_iff.1 (by omega)
      refine List.eq_nil_iff_forall_not_mem.2 fun j hj => ?_
      have hj' := mem_ready.1 hj
      have : j ∈ ((List.range ops.size).filter fun j => !listed.getD j true) := by
        obtain ⟨hl, o, ho, _⟩ := hj'
        exact List.mem_filter.2 ⟨List.mem_range.2 (Array.getElem?_eq_some_iff.1 ho).1, by simp [hl]⟩
      rw [h0] at this
      cases this
    exact ⟨hnil, hdone listed a w y hI hL hnil⟩
  | succ fuel ih =>
    intro listed a w y hlen hI hE hL
    refine ⟨hdone listed a w y hI hL, fun i hi => ?_⟩
    obtain ⟨hun, o, ho, hedges⟩ := mem_ready.1 hi
    have hilt : i < ops.size := (Array.getElem?_eq_some_iff.1 ho).1
    have hunf : listed.getD i false = false := by rw [← listed_cases (by rw [hI.size]; exact hilt)]; exact hun
    have hrow := hrows i hilt
    rw [ho] at hrow
    simp only [Bool.and_eq_true, List.all_eq_true, decide_eq_true_eq, List.any_eq_true, Bool.or_eq_true, beq_iff_eq, List.contains_iff_mem] at hrow
    -- what i waits for has been listed
    have hD : ∀ k ∈ D.getD i [], listed.getD k false = true := by
      intro k hk
      obtain ⟨e, he, hek⟩ := hrow.2 k hk
      obtain ⟨ed, hed, rfl⟩ := List.mem_map.1 he
      obtain ⟨hed1, hed2⟩ := List.mem_filter.1 hed
      have hl := hedges ed (by simpa using hed1) hed2
      rcases hek with rfl | hek
      · exact hl
      · exact hI.closed _ hl k hek
    have hcan : fillL y (canonL ops D i) a0 = a := by
      rw [hI.act]
      refine fillL_filter y _ _ a0 hkeys ?_
      rintro ⟨d, j⟩ hq hp
      simp only [Bool.not_eq_false', Bool.or_eq_true, beq_iff_eq] at hp
      have hdst := mem_pairsOf.1 hq
      refine hI.open_ j d ?_ hdst
      rcases hp with rfl | hw
      · exact hun
      · have hjlt : j < listed.size := by
          rw [hI.size]
          rcases Nat.lt_or_ge j ops.size with h' | h'
          · exact h'
          · rw [Array.getElem?_eq_none h'] at hdst; cases hdst
        rw [listed_cases hjlt]
        cases hl : listed.getD j false with
        | false => rfl
        | true =>
          have := hI.closed j hl i (by simpa [waits] using hw)
          rw [hunf] at this
          cases this
    by_cases hlast : i = ops.size - 1
    · -- the last: all others have been listed
      subst hlast
      have hothers : ∀ d j, ops.size - 1 - j = d → j + 1 < ops.size → listed.getD j false = true := by
        intro d
        induction d using Nat.strongRecOn with
        | ind d ihd =>
          intro j hd hj
          have h1 := List.all_eq_true.1 hsink j (List.mem_range.2 (by omega))
          obtain ⟨k, hk, hk2⟩ := List.any_eq_true.1 h1
          simp only [Bool.and_eq_true, decide_eq_true_eq] at hk2
          have hkn := List.mem_range.1 hk
          obtain ⟨hjk, hwt⟩ := hk2
          cases hok : ops[k]? with
          | none => simp [hok] at hwt
          | some ok =>
            simp only [hok, Array.any_eq_true'] at hwt
            obtain ⟨e, he, hb⟩ := hwt
            simp only [Bool.and_eq_true, beq_iff_eq] at hb
            rw [← hb.2]
            by_cases hkl : k = ops.size - 1
            · subst hkl
              rw [ho] at hok; cases hok
              exact hedges e he hb.1
            · exact hE k ok hok (ihd (ops.size - 1 - k) (by omega) k rfl (by omega)) e he hb.1
      have hfl := hfin o ho y w hI.grown (fun j hj => hI.facts j (hothers _ j rfl hj)) a hcan.symm
      have hend : ∀ v w', Q .normal v w' → wpAny P .any ops Q fuel (listed.setIfInBounds (ops.size - 1) true) v w' := by
        intro v w' hq
        have hnil : Region.ready .any ops (listed.setIfInBounds (ops.size - 1) true) = [] := by
          refine List.eq_nil_iff_forall_not_mem.2 fun j hj => ?_
          obtain ⟨hl, o', ho', _⟩ := mem_ready.1 hj
          have hjlt : j < ops.size := (Array.getElem?_eq_some_iff.1 ho').1
          by_cases hjl : ops.size - 1 = j
          · subst hjl
            have h2 : ops.size - 1 < listed.size := by rw [hI.size]; exact hilt
            simp [h2] at hl
          · rw [getD_set_ne true hjl, listed_cases (by rw [hI.size]; exact hjlt), hothers _ j rfl (by omega)] at hl
            cases hl
        cases fuel with
        | zero => exact ⟨hnil, hq⟩
        | succ f => exact ⟨fun _ => hq, fun j hj => by rw [hnil] at hj; cases hj⟩
      unfold wpOp
      simp only [ho]
      split at hfl
      · rename_i hwa
        rw [if_pos hwa]
        exact .inl (wp_exit (Oper.wp_mono (fun a' w' hq => hend a' w' hq) hfl))
      · rename_i hwa
        rw [if_neg hwa]
        exact hend _ _ hfl
    have hw := hop i o (by omega) ho y w hI.grown (fun j hj => hI.facts j (hD j hj)) (fun a' w' => ∃ v, a' = a.put o.dst v ∧ R w w' ∧ Φ i v w')
    rw [hcan] at hw
    have hlen' : ((List.range ops.size).filter fun j => !(listed.setIfInBounds i true).getD j true).length ≤ fuel := by
      have : ((List.range ops.size).filter fun j => !(listed.setIfInBounds i true).getD j true).length < ((List.range ops.size).filter fun j => !listed.getD j true).length := by
        refine filter_lt _ i (fun j hj => ?_) (List.mem_range.2 hilt) (by rw [hun]; rfl) ?_
        · by_cases hij : i = j
          · subst hij
            have h2 : i < listed.size := by rw [hI.size]; exact hilt
            simp [h2] at hj
          · rw [getD_set_ne true hij] at hj; exact hj
        · have h2 : i < listed.size := by rw [hI.size]; exact hilt
          simp [h2]
      omega
    have hnext : ∀ v w', R w w' → Φ i v w' → wpAny P .any ops Q fuel (listed.setIfInBounds i true) (a.put o.dst v) w' := by
      intro v w' hr hφ
      have h2 : i < listed.size := by rw [hI.size]; exact hilt
      refine ih _ _ _ (fun k => if k = i then v else y k) hlen' ⟨by simp [hI.size], ?_, hRt hI.grown hr, ?_, ?_, ?_⟩ ?_ ?_
      · cases hd : o.dst with
        | none =>
          rw [hI.act]
          show fillL y (pairsOf ops) a0 = _
          refine fillL_congr _ _ _ _ fun p hp => ?_
          have := mem_pairsOf.1 (show (p.1, p.2) ∈ pairsOf ops from hp)
          have hne : p.2 ≠ i := fun he => by rw [he, ho] at this; simp [hd] at this
          simp [hne]
        | some d =>
          rw [hI.act, fillL_set y i v _ a0 d hkeys (mem_pairsOf.2 (by simp [ho, hd]))]
      · intro j hj
        by_cases hji : j = i
        · subst hji; simpa using hφ
        · simp only [hji, if_false]
          rw [getD_set_ne false (Ne.symm hji)] at hj
          exact hst j _ _ _ hr (hI.facts j hj)
      · intro j d hj hdst
        have hji : j ≠ i := fun he => by subst he; simp [h2] at hj
        simp only [hji, if_false]
        rw [getD_set_ne true (Ne.symm hji)] at hj
        exact hI.open_ j d hj hdst
      · intro j hj k hk
        by_cases hji : j = i
        · subst hji; exact getD_set_true (hD k hk)
        · rw [getD_set_ne false (Ne.symm hji)] at hj
          exact getD_set_true (hI.closed j hj k hk)
      · intro j oj hoj hj e he hb
        by_cases hji : j = i
        · subst hji
          rw [ho] at hoj; cases hoj
          exact getD_set_true (hedges e he hb)
        · rw [getD_set_ne false (Ne.symm hji)] at hj
          exact getD_set_true (hE j oj hoj hj e he hb)
      · rw [getD_set_ne true hlast]; exact hL
    unfold wpOp
    simp only [ho]
    have hw2 := hw (fun v w' hr hφ => ⟨v, rfl, hr, hφ⟩)
    split at hw2
    · rename_i hwa
      rw [if_pos hwa]
      refine .inl ?_
      have h3 : o.wp P a w (wpAny P .any ops Q fuel (listed.setIfInBounds i true)) (fun _ _ _ => False) :=
        Oper.wp_mono (fun a' w' ⟨v, he, hr, hφ⟩ => by subst he; exact hnext v w' hr hφ) hw2
      exact wp_exit h3
    · rename_i hwa
      rw [if_neg hwa]
      obtain ⟨v, he, hr, hφ⟩ := hw2
      rw [he]
      exact hnext v w hr hφ
where
  wp_exit {o : Oper} {a : Act} {w : World} {K : Act → World → Prop} {Q : Exit → Act → World → Prop} (h : o.wp P a w K (fun _ _ _ => False)) : o.wp P a w K Q := by
    unfold Oper.wp at *
    generalize (execOp a.eval o).run P w = r at *
    cases r with
    | ok n w' =>
      cases n <;> simp only [Oper.upon] at h ⊢
      case enter f args =>
        refine Calls.mono h fun e w'' he => ?_
        cases e with
        | returned v => exact he
        | panicked c => exact he.elim
        | outgrown => obtain ⟨_, _, hq⟩ := he; exact hq.elim
      all_goals exact h
    | halt x w' => cases x <;> simp only [Oper.upon] at h


def lastOf {α : Type} [Inhabited α] : List α → α
  | [] => default
  | [x] => x
  | _ :: y :: r => lastOf (y :: r)
theorem lastOf_eq {α : Type} [Inhabited α] : ∀ l : List α, lastOf l = l.getLast?.getD default
  | [] => rfl
  | [x] => rfl
  | _ :: y :: r => by rw [lastOf, lastOf_eq (y :: r), List.getLast?_cons_cons]

/-- **A region that draws its order, its last operation free; the tables written out.** -/
theorem wp_region_last {id : Nat} {a0 : Act} {w0 : World} {Q : Exit → Act → World → Prop} (R : World → World → Prop) (D : List (List Nat)) (C : List (List (Nat × Nat))) (Φ : List (Value → World → Prop)) (hm : P.follows .mixedOrders = true)
    (hRt : ∀ {a b c : World}, R a b → R b c → R a c) (hrr : ∀ w, R w w) (hd : R w0 w0.drew) (hchk : (tablesOK ops D C (pairsOf ops) && sinkOK ops && decide (0 < ops.size)) = true) (hst : stL R Φ)
    (hlen : Φ.length + 1 = ops.size)
    (hop : allW P ops R Φ a0 w0 0 ops.toList.dropLast D C)
    (hfin : ∀ y w, R w0 w → factsH y w 0 Φ → ∀ K : Act → World → Prop, (∀ a' w', Q .normal a' w' → K a' w') →
      if Region.wanted (lastOf ops.toList) (yielded ops (fillL y (lastOf C) a0).tmps) then (lastOf ops.toList).wp P (fillL y (lastOf C) a0) w K (fun _ _ _ => False) else K ((fillL y (lastOf C) a0).put (lastOf ops.toList).dst undef) w)
    (hCl : C.length = ops.size) : (Code.region id ops true).wp P Q a0 w0 := by
  simp only [Bool.and_eq_true, decide_eq_true_eq] at hchk
  obtain ⟨⟨hchk, hsink⟩, hpos⟩ := hchk
  simp only [tablesOK, Bool.and_eq_true, decide_eq_true_eq, List.all_eq_true, List.mem_range] at hchk
  obtain ⟨⟨h1, h2⟩, h3⟩ := hchk
  refine wp_region_any hm ?_
  have hwords := allW_words (P := P) (R := R) (Φ := Φ) (a0 := a0) (w0 := w0) D C h3
  refine wpAny_of_factsL (R := R) (D := D.toArray) (Φ := fun j => Φ.getD j (fun _ _ => True)) (a0 := a0) (w0 := w0) hRt h1 ?_ hrr (fun i o hi ho => ?_) hpos hsink ?_ ops.size _ a0 _ (fun j => match (ops[j]?).bind (·.dst) with | some d => a0.tmps.getD d undef | none => undef) ?_ ⟨by simp, ?_, hd, ?_, ?_, ?_⟩ ?_ ?_
  · intro j v w w' hr hφ
    rcases Nat.lt_or_ge j Φ.length with hj | hj
    · have e : Φ.getD j (fun _ _ => True) = Φ[j] := by simp [List.getD_eq_getElem?_getD, hj]
      simp only [e] at hφ ⊢
      exact stL_mem Φ hst _ (List.getElem_mem hj) v w w' hr hφ
    · have e : Φ.getD j (fun _ _ => True) = fun _ _ => True := by simp [List.getD_eq_getElem?_getD, hj]
      simp only [e]
  · have hd2 := allW_dropLast D C h3 ops.toList.dropLast 0 D C (by simp) (by simp) (by simp) hop
    have := allWords_get _ 0 i o hd2 (by rw [List.getElem?_dropLast]; simp; exact ⟨by omega, ho⟩)
    simpa using this
  · intro o ho y w hr hf a ha
    subst ha
    have hl : ops.toList.getLast? = some o := by rw [List.getLast?_eq_getElem?]; simpa using ho
    have hc : lastOf C = canonL ops D.toArray (ops.size - 1) := by
      rw [lastOf_eq, ← h3 (ops.size - 1) (by omega), List.getLast?_eq_getElem?, List.getD_eq_getElem?_getD, hCl]; rfl
    rw [← hc]
    have ho2 : lastOf ops.toList = o := by rw [lastOf_eq, hl]; rfl
    rw [← ho2]
    exact hfin y w hr (factsH_of Φ 0 (by simp) (fun j h => hf j (by omega))) _ (fun _ _ h => h)
  · exact Nat.le_trans (List.length_filter_le _ _) (by simp)
  · symm
    have : ∀ (L : List (Nat × Nat)), (∀ p ∈ L, (ops[p.2]?).bind (·.dst) = some p.1) → fillL (fun j => match (ops[j]?).bind (·.dst) with | some d => a0.tmps.getD d undef | none => undef) L a0 = a0 := by
      intro L
      induction L with
      | nil => intro _; rfl
      | cons p L ih =>
        intro h
        obtain ⟨d, j⟩ := p
        have hd := h (d, j) (by simp)
        simp only at hd
        show fillL _ L (a0.put (some d) _) = a0
        simp only [hd]
        rw [put_self]
        exact ih (fun p hp => h p (by simp [hp]))
    exact this _ (fun p hp => mem_pairsOf.1 hp)
  · intro j hj
    have h : (Array.replicate ops.size false).getD j false = false := by
      simp [Array.getD]
    rw [h] at hj; cases hj
  · intro j d _ hdst
    simp only [hdst]
    exact put_self a0 d
  · intro j hj
    have h : (Array.replicate ops.size false).getD j false = false := by
      simp [Array.getD]
    rw [h] at hj; cases hj
  · intro j o _ hj
    have h : (Array.replicate ops.size false).getD j false = false := by
      simp [Array.getD]
    rw [h] at hj; cases hj
  · have h2 : ops.size - 1 < ops.size := by omega
    simp [Array.getD, h2]
where
  allW_dropLast {R : World → World → Prop} {Φ : List (Value → World → Prop)} {a0 : Act} {w0 : World} (D0 : List (List Nat)) (C0 : List (List (Nat × Nat))) (hC : ∀ i, i < ops.size → C0.getD i [] = canonL ops D0.toArray i) :
    ∀ (l : List Oper) (i : Nat) (D : List (List Nat)) (C : List (List (Nat × Nat))), i + l.length ≤ ops.size → (∀ k, D[k]? = D0[i + k]?) → (∀ k, C[k]? = C0[i + k]?) → allW P ops R Φ a0 w0 i l D C →
      allWords (opWord P ops R D0.toArray (fun j => Φ.getD j (fun _ _ => True)) a0 w0) i l := by
    intro l
    induction l with
    | nil => intros; trivial
    | cons o r ih =>
      intro i D C hl hD hC' h
      match D, C, h with
      | d :: ds, c :: cs, h =>
        obtain ⟨h1, h2⟩ := h
        refine ⟨?_, ih (i + 1) ds cs (by simp at hl; omega) (fun k => ?_) (fun k => ?_) h2⟩
        · have hd : D0.toArray.getD i [] = d := by
            have := hD 0
            simp at this
            simp [Array.getD_eq_getD_getElem?, ← this]
          have hc : canonL ops D0.toArray i = c := by
            rw [← hC i (by simp at hl; omega)]
            have := hC' 0
            simp at this
            simp [List.getD_eq_getElem?_getD, ← this]
          intro y w hR hj K hK
          rw [hd] at hj
          rw [hc] at hK ⊢
          exact h1 y w hR (depsH_of _ hj) K (fun a' v w' he hr hφ => by subst he; exact hK v w' hr hφ)
        · have := hD (k + 1)
          simp at this
          rw [this]; congr 1; omega
        · have := hC' (k + 1)
          simp at this
          rw [this]; congr 1; omega

end
theorem ite_yes {b : Bool} {p q : Prop} (hb : b = true) (h : p) : if b then p else q := by rw [if_pos hb]; exact h
theorem ite_no {b : Bool} {p q : Prop} (hb : b = false) (h : q) : if b then p else q := by rw [if_neg (by simp [hb])]; exact h
end Go.Proofs.Ytlhliolknaopjaa

/-
  Trees: the plain tree, what a world holds of it (read: NodeAt; owned: OwnT), and how an argument of the node's type reads. Conditions: the argument can be read as data.
-/
namespace Go.Proofs.Ytlhliolknaopjaa
open Go Go.ChangeShapes Go.WideShapes Go.ChangeAt Go.RowKit Go.Joins Go.Deep
set_option linter.unusedVariables false
set_option linter.unusedSimpArgs false

/-- A tree: kind, signed number, unsigned number, string, keys, children. -/
inductive Tr where
  | mk (k n u : Int) (s : ByteArray) (keys : List ByteArray) (l : List Tr)

def Tr.kids : Tr → List Tr | .mk _ _ _ _ _ l => l
def Tr.kind : Tr → Int | .mk k _ _ _ _ _ => k
def Tr.keys : Tr → List ByteArray | .mk _ _ _ _ ks _ => ks
mutual
def Tr.size : Tr → Nat | .mk _ _ _ _ _ l => sizeL l + 1
def sizeL : List Tr → Nat | [] => 0 | t :: r => t.size + sizeL r
end
theorem Tr.size_pos (t : Tr) : 1 ≤ t.size := by cases t; simp [Tr.size]
theorem size_mem {x : Tr} {l : List Tr} (h : x ∈ l) : x.size ≤ sizeL l := by
  induction l with
  | nil => cases h
  | cons t r ih =>
    simp only [sizeL]
    rcases List.mem_cons.1 h with rfl | h
    · omega
    · have := ih h; omega
theorem length_sizeL (l : List Tr) : l.length ≤ sizeL l := by
  induction l with
  | nil => simp [sizeL]
  | cons t r ih => have := t.size_pos; simp only [sizeL, List.length_cons]; omega

def i64ok (x : Int) : Prop := -9223372036854775808 ≤ x ∧ x ≤ 9223372036854775807
def u64ok (x : Int) : Prop := 0 ≤ x ∧ x ≤ 18446744073709551615
def lenok (n : Nat) : Prop := n ≤ 9223372036854775807

/-- A slice of strings, read. -/
def StrsAt (w : World) (v : Value) (l : List ByteArray) : Prop :=
  ∃ a c, v = .slice a l.length c ∧ l.length ≤ c ∧ lenok c ∧ (a = none → c = 0) ∧ ∀ i s, l[i]? = some s → lenok s.size ∧ ∃ b off, a = some ⟨b, off, none⟩ ∧ w.cell? ⟨b, off + i, none⟩ = some (.string s)
/-- The six cells from an offset on hold a node's value. -/
def Cells6 (w : World) (b off : Nat) (v : Value) : Prop :=
  ∃ c0 c1 c2 c3 c4 c5, v = .agg #[c0, c1, c2, c3, c4, c5] ∧ w.cell? ⟨b, off, none⟩ = some c0 ∧ w.cell? ⟨b, off + 1, none⟩ = some c1 ∧ w.cell? ⟨b, off + 2, none⟩ = some c2 ∧ w.cell? ⟨b, off + 3, none⟩ = some c3 ∧ w.cell? ⟨b, off + 4, none⟩ = some c4 ∧ w.cell? ⟨b, off + 5, none⟩ = some c5
/-- A slice of nodes, as its elements' values. -/
def RowsAt (w : World) (v : Value) (vs : List Value) : Prop :=
  ∃ a c, v = .slice a vs.length c ∧ vs.length ≤ c ∧ lenok c ∧ (a = none → c = 0) ∧ ∀ i x, vs[i]? = some x → ∃ b off, a = some ⟨b, off, none⟩ ∧ Cells6 w b (off + i * 6) x
mutual
/-- The value v is the tree, read in w. -/
def NodeAt (w : World) : Tr → Value → Prop
  | .mk k n u s keys l, v => (i64ok k ∧ i64ok n ∧ u64ok u ∧ lenok s.size) ∧ ∃ kv lv vs, v = .agg #[.int .i64 k, .int .i64 n, .int .u64 u, .string s, kv, lv] ∧ StrsAt w kv keys ∧ RowsAt w lv vs ∧ KidsAt w l vs
def KidsAt (w : World) : List Tr → List Value → Prop
  | [], vs => vs = []
  | t :: r, vs => ∃ v vr, vs = v :: vr ∧ NodeAt w t v ∧ KidsAt w r vr
end
section
variable {w w' : World} {v : Value} {vs : List Value} {t : Tr} {l : List Tr}
theorem StrsAt.grew {ks : List ByteArray} (h : StrsAt w v ks) (hg : Grew w w') : StrsAt w' v ks := by
  obtain ⟨a, c, h1, h2, h3, h4, h5⟩ := h
  refine ⟨a, c, h1, h2, h3, h4, fun i s hs => ?_⟩
  obtain ⟨hz, b, off, e, hc⟩ := h5 i s hs
  exact ⟨hz, b, off, e, hg.cell hc⟩
theorem Cells6.grew {b off : Nat} (h : Cells6 w b off v) (hg : Grew w w') : Cells6 w' b off v := by
  obtain ⟨c0, c1, c2, c3, c4, c5, e, h0, h1, h2, h3, h4, h5⟩ := h
  exact ⟨c0, c1, c2, c3, c4, c5, e, hg.cell h0, hg.cell h1, hg.cell h2, hg.cell h3, hg.cell h4, hg.cell h5⟩
theorem RowsAt.grew (h : RowsAt w v vs) (hg : Grew w w') : RowsAt w' v vs := by
  obtain ⟨a, c, h1, h2, h3, h4, h5⟩ := h
  refine ⟨a, c, h1, h2, h3, h4, fun i x hx => ?_⟩
  obtain ⟨b, off, e, hc⟩ := h5 i x hx
  exact ⟨b, off, e, hc.grew hg⟩
mutual
theorem NodeAt.grew (hg : Grew w w') : ∀ {t : Tr} {v : Value}, NodeAt w t v → NodeAt w' t v
  | .mk k n u s keys l, v, ⟨hb, kv, lv, vs, e, h1, h2, h3⟩ => ⟨hb, kv, lv, vs, e, h1.grew hg, h2.grew hg, KidsAt.grew hg h3⟩
theorem KidsAt.grew (hg : Grew w w') : ∀ {l : List Tr} {vs : List Value}, KidsAt w l vs → KidsAt w' l vs
  | [], _, h => h
  | t :: r, _, ⟨v, vr, e, h1, h2⟩ => ⟨v, vr, e, NodeAt.grew hg h1, KidsAt.grew hg h2⟩
end
theorem KidsAt.length (h : KidsAt w l vs) : vs.length = l.length := by
  induction l generalizing vs with
  | nil => simp only [KidsAt] at h; subst h; rfl
  | cons t r ih =>
    simp only [KidsAt] at h
    obtain ⟨v, vr, rfl, _, h2⟩ := h
    simp [ih h2]
theorem KidsAt.get (h : KidsAt w l vs) {i : Nat} {x : Tr} (hx : l[i]? = some x) : ∃ v, vs[i]? = some v ∧ NodeAt w x v := by
  induction l generalizing vs i with
  | nil => simp at hx
  | cons t r ih =>
    simp only [KidsAt] at h
    obtain ⟨v, vr, rfl, h1, h2⟩ := h
    cases i with
    | zero => simp at hx; subst hx; exact ⟨v, rfl, h1⟩
    | succ i => simpa using ih h2 (i := i) (by simpa using hx)
theorem KidsAt.mk (hl : vs.length = l.length) (h : ∀ (i : Nat) (x : Tr) (v : Value), l[i]? = some x → vs[i]? = some v → NodeAt w x v) : KidsAt w l vs := by
  induction l generalizing vs with
  | nil => simp only [KidsAt]; exact List.length_eq_zero_iff.1 hl
  | cons t r ih =>
    cases vs with
    | nil => simp at hl
    | cons v vr =>
      simp only [KidsAt]
      exact ⟨v, vr, rfl, h 0 t v rfl rfl, ih (by simpa using hl) (fun i x v hx hv => h (i + 1) x v (by simpa using hx) (by simpa using hv))⟩
end

/-! ### how an argument reads -/
set_option maxRecDepth 100000 in
theorem cells_node : Try.prog.cellsOf 27 = 6 := by kernel_rfl
set_option maxRecDepth 100000 in
theorem cells_nint : Try.prog.cellsOf 3 = 1 := by kernel_rfl
set_option maxRecDepth 100000 in
theorem cells_ni64 : Try.prog.cellsOf 2 = 1 := by kernel_rfl
set_option maxRecDepth 100000 in
theorem cells_nu64 : Try.prog.cellsOf 23 = 1 := by kernel_rfl
set_option maxRecDepth 100000 in
theorem cells_nstr : Try.prog.cellsOf 9 = 1 := by kernel_rfl
set_option maxRecDepth 100000 in
theorem cells_nstrs : Try.prog.cellsOf 24 = 1 := by kernel_rfl
set_option maxRecDepth 100000 in
theorem cells_nnodes : Try.prog.cellsOf 25 = 1 := by kernel_rfl
theorem add_off (a : Addr) (b off i : Nat) (h : a = ⟨b, off, none⟩) : a.add i = ⟨b, off + i, none⟩ := by
  subst h
  by_cases h0 : i = 0
  · subst h0; simp [Addr.add]
  · simp [Addr.add, h0]
section
variable {H : Type} {enc : TypeId × Value → H} {W : World}
theorem strs_of_trod {fuel : Nat} {cs : List Value} {x : DataW H × List MemPlace} (h : DataW.trod enc Try.prog W 0 (fun _ => true) true fuel 24 cs = some x) : ∃ v l, cs = [v] ∧ StrsAt W v l := by
  rcases Go.Deep.open_strs Try.underlying24 Try.underlying9 cells_nstr h with ⟨rfl, _⟩ | ⟨a, len, cap, m, Sx, rfl, _, hl, hm, hmm, _, hi⟩
  · exact ⟨_, [], rfl, none, 0, rfl, by simp, by unfold lenok; omega, fun _ => rfl, by simp⟩
  · have hmc : m = cap := by simpa using hmm
    subst hmc
    refine ⟨_, (List.range len).map Sx, rfl, some a, m, by simp, by simpa using hl, by unfold maxLen at hm; exact hm, (fun h => by cases h), fun i s hs => ?_⟩
    have hil : i < len := by have := (List.getElem?_eq_some_iff.1 hs).1; simpa using this
    have hsx : Sx i = s := by have := (List.getElem?_eq_some_iff.1 hs).2; simpa using this
    obtain ⟨hc, hz⟩ := hi i (by omega)
    rw [hsx] at hc hz
    have h0 := (hi 0 (by omega)).1
    obtain ⟨b, off, spot⟩ := a
    obtain rfl : spot = none := by simpa [Addr.add] using World.cell?_spot h0
    exact ⟨hz, b, off, rfl, by rw [add_off _ b off i rfl] at hc; exact hc⟩
theorem i64_of {q : Int} (h : (Lit.int .i64 q).wf = true) : i64ok q := bounds_i64 h
theorem u64_of {q : Int} (h : (Lit.int .u64 q).wf = true) : u64ok q := by
  simp [Lit.wf, IntKind.min, IntKind.max, IntKind.signed, IntKind.bits] at h
  unfold u64ok
  omega
set_option maxRecDepth 100000 in
theorem node_of_trod : ∀ (fuel : Nat) (cs : List Value) (x : DataW H × List MemPlace), DataW.trod enc Try.prog W 0 (fun _ => true) true fuel 27 cs = some x →
    ∃ c0 c1 c2 c3 c4 c5 t, cs = [c0, c1, c2, c3, c4, c5] ∧ NodeAt W t (.agg #[c0, c1, c2, c3, c4, c5]) := by
  intro fuel
  induction fuel using Nat.strongRecOn with
  | _ fuel ih =>
    intro cs x h
    obtain ⟨xs, n1, e1, _, hcl, hlen, hg⟩ := DataW.trod_struct Try.underlying27 h
    rw [cells_node] at hcl
    match cs, hcl with
    | [c0, c1, c2, c3, c4, c5], _ =>
      match xs, hlen with
      | [y0, y1, y2, y3, y4, y5], _ =>
        have g0 := hg 0 _ rfl
        have g1 := hg 1 _ rfl
        have g2 := hg 2 _ rfl
        have g3 := hg 3 _ rfl
        have g4 := hg 4 _ rfl
        have g5 := hg 5 _ rfl
        simp [cells_nint, cells_ni64, cells_nu64, cells_nstr, cells_nstrs, cells_nnodes] at g0 g1 g2 g3 g4 g5
        obtain ⟨x0, e0, _, w0⟩ := DataW.trod_int Try.underlying3 g0
        obtain ⟨x1, e1', _, w1⟩ := DataW.trod_int Try.underlying2 g1
        obtain ⟨x2, e2, _, w2⟩ := DataW.trod_int Try.underlying23 g2
        obtain ⟨x3, e3, _, w3⟩ := DataW.trod_string Try.underlying9 g3
        obtain ⟨kv, keys, e4, hks⟩ := strs_of_trod g4
        simp at e0 e1' e2 e3 e4
        subst e0 e1' e2 e3 e4
        have hrow : ∃ lv vs l, c5 = lv ∧ RowsAt W lv vs ∧ KidsAt W l vs := by
          rcases DataW.trod_slice Try.underlying25 g5 with ⟨hcs, _⟩ | ⟨a, len, cap, elems, rest, n2, e5, hcs, _, _, hl, hm, hel, hi, hr, _⟩
          · simp at hcs
            exact ⟨_, [], [], hcs, ⟨none, 0, rfl, by simp, by unfold lenok; omega, fun _ => rfl, by simp⟩, by simp [KidsAt]⟩
          · simp at hcs
            rw [cells_node] at hi
            have hex : ∀ i, i < len → ∃ p : Tr × Value, NodeAt W p.1 p.2 ∧ ∃ b off, a = ⟨b, off, none⟩ ∧ Cells6 W b (off + i * 6) p.2 := by
              intro i hil
              have hi' := hi i hil
              rw [List.getElem?_eq_getElem (by omega)] at hi'
              obtain ⟨cs', hc, ht⟩ := Option.bind_eq_some_iff.1 hi'
              obtain ⟨d0, d1, d2, d3, d4, d5, t, rfl, hn⟩ := ih n2 (by omega) _ _ ht
              obtain ⟨_, _, hat⟩ := World.cells?_some hc
              have hspot : a.spot = none := by
                have h0 := hi 0 (by omega)
                rw [List.getElem?_eq_getElem (by omega)] at h0
                obtain ⟨cs0, hc0, ht0⟩ := Option.bind_eq_some_iff.1 h0
                obtain ⟨_, _, hat0⟩ := World.cells?_some hc0
                have q := hat0 0 (by omega)
                have hz : (a.add (0 * 6)).add 0 = a := by simp [Addr.add]
                rw [hz] at q
                cases hq : cs0[0]? with
                | none => rw [hq] at q; exact absurd (by simpa using congrArg Option.isSome q) (by
                    have := (World.cells?_some hc0).2.1
                    rw [List.getElem?_eq_none_iff] at hq; omega)
                | some u => rw [hq] at q; exact World.cell?_spot q
              obtain ⟨b, off, spot⟩ := a
              subst hspot
              have q0 := hat 0 (by omega)
              have q1 := hat 1 (by omega)
              have q2 := hat 2 (by omega)
              have q3 := hat 3 (by omega)
              have q4 := hat 4 (by omega)
              have q5 := hat 5 (by omega)
              rw [add_off _ b off (i * 6) rfl, add_off _ b (off + i * 6) _ rfl] at q0 q1 q2 q3 q4 q5
              exact ⟨(t, _), hn, b, off, rfl, d0, d1, d2, d3, d4, d5, rfl, by simpa using q0, by simpa using q1, by simpa using q2, by simpa using q3, by simpa using q4, by simpa using q5⟩
            have : Inhabited (Tr × Value) := ⟨(.mk 0 0 0 ByteArray.empty [] [], .bool true)⟩
            obtain ⟨f, hf⟩ := choose_lt hex
            refine ⟨_, (List.range len).map fun i => (f i).2, (List.range len).map fun i => (f i).1, hcs, ⟨some a, cap, by simp, by simpa using hl, by unfold maxLen at hm; exact hm, (fun h => by cases h), fun i x hx => ?_⟩, ?_⟩
            · have hil : i < len := by have := (List.getElem?_eq_some_iff.1 hx).1; simpa using this
              have hxe : (f i).2 = x := by have := (List.getElem?_eq_some_iff.1 hx).2; simpa using this
              obtain ⟨_, b, off, e, hc⟩ := hf i hil
              rw [hxe] at hc
              exact ⟨b, off, by rw [e], hc⟩
            · refine KidsAt.mk (by simp) fun i x v hx hv => ?_
              have hil : i < len := by have := (List.getElem?_eq_some_iff.1 hx).1; simpa using this
              have hxe : (f i).1 = x := by have := (List.getElem?_eq_some_iff.1 hx).2; simpa using this
              have hve : (f i).2 = v := by have := (List.getElem?_eq_some_iff.1 hv).2; simpa using this
              have := (hf i hil).1
              rwa [hxe, hve] at this
        obtain ⟨lv, vs, l, e5, hr, hk⟩ := hrow
        subst e5
        exact ⟨_, _, _, _, _, _, .mk x0 x1 x2 x3 keys l, rfl, ⟨i64_of w0, i64_of w1, u64_of w2, by unfold maxLen at w3; exact w3⟩, _, _, vs, rfl, hks, hr, hk⟩
set_option maxRecDepth 100000 in
theorem open_node {base : Nat} {v : Value} {d : DataW H} {p : List MemPlace} (o : Value.okWide Try.prog W .any base 27 v) (k : DataW.Trod enc Try.prog W 0 (fun _ => true) true 27 v d p) : ∃ t, NodeAt W t v := by
  simp only [Value.okWide, Try.underlying27] at o
  obtain ⟨cs, rfl, hsz, _⟩ := o
  obtain ⟨fuel, hf⟩ := k
  obtain ⟨c0, c1, c2, c3, c4, c5, t, e, hn⟩ := node_of_trod fuel _ _ hf
  simp [Value.cells] at e
  obtain ⟨l⟩ := cs
  simp at e
  subst e
  exact ⟨t, hn⟩
end

end Go.Proofs.Ytlhliolknaopjaa

/-
  Reading integers at whatever offset (le.Load, le.LoadInt). Conditions: the bytes lie in memory.
-/
namespace Go.Proofs.Ytlhliolknaopjaa
open Go Go.ChangeShapes Go.WideShapes Go.ChangeAt Go.RowKit Go.Joins Go.Deep
set_option linter.unusedVariables false
set_option linter.unusedSimpArgs false

abbrev fnv (k : Nat) (cap : Array Value) : Value := .func (.func k) #[] cap
theorem isW_cases {x : Int} (h : isW x = true) : x = 1 ∨ x = 2 ∨ x = 4 ∨ x = 8 := by
  simp [isW] at h; omega


/-- The number of bytes, lowest first. -/
def leF : List UInt8 → Int
  | [] => 0
  | c :: r => (c.toNat : Int) + 256 * leF r
theorem leF_snoc (c : UInt8) : ∀ l : List UInt8, leF (l ++ [c]) = leF l + c.toNat * 256 ^ l.length
  | [] => by simp [leF]
  | d :: r => by
    have ih := leF_snoc c r
    simp only [List.cons_append, leF, List.length_cons, ih]
    rw [Int.mul_add, ← Int.mul_assoc, Int.mul_comm 256 (c.toNat : Int), Int.mul_assoc, Int.pow_succ, Int.mul_comm 256 ((256 : Int) ^ r.length)]
    omega
theorem leF_lo : ∀ l : List UInt8, 0 ≤ leF l
  | [] => by simp [leF]
  | d :: r => by have := leF_lo r; simp only [leF]; omega
theorem leF_hi : ∀ l : List UInt8, leF l < 256 ^ l.length
  | [] => by simp [leF]
  | d :: r => by
    have := leF_hi r
    have hd := d.toNat_lt
    simp only [leF, List.length_cons]
    rw [Int.pow_succ]
    omega
theorem leF_take (l : List UInt8) (k : Nat) (h : k < l.length) : leF (l.take (k + 1)) = leF (l.take k) + l[k].toNat * 256 ^ k := by
  rw [List.take_succ_eq_append_getElem h, leF_snoc, List.length_take, Nat.min_eq_left (by omega)]
theorem top_lem (b k : Nat) (hk : k < 8) (hb : b < 256) : b * 256 ^ k + 256 ^ k ≤ 18446744073709551616 := by
  have h1 : (b + 1) * 256 ^ k ≤ 256 * 256 ^ k := Nat.mul_le_mul_right _ hb
  have h2 : 256 * 256 ^ k = 256 ^ (k + 1) := by rw [Nat.pow_succ, Nat.mul_comm]
  have h3 : 256 ^ (k + 1) ≤ 256 ^ 8 := Nat.pow_le_pow_right (by decide) hk
  rw [Nat.add_mul] at h1
  have : (256 : Nat) ^ 8 = 18446744073709551616 := by decide
  omega
theorem or_lem (u : Int) (b k : Nat) (hk : k < 8) (u0 : 0 ≤ u) (hu : u < 256 ^ k) (hb : b < 256) : bits .or .u64 u ((b : Int) * 256 ^ k) = u + b * 256 ^ k := by
  obtain ⟨n, rfl⟩ := Int.eq_ofNat_of_zero_le u0
  have hx : ((b : Int) * 256 ^ k) = ((b * 256 ^ k : Nat) : Int) := by simp
  have hn : n < 256 ^ k := by have : ((n : Nat) : Int) < ((256 ^ k : Nat) : Int) := by simpa using hu
                              exact Int.ofNat_lt.1 this
  have ht := top_lem b k hk hb
  have e : (256 : Nat) ^ k = 2 ^ (8 * k) := by rw [Nat.pow_mul]
  rw [hx]
  unfold bits
  show IntKind.u64.wrap (((BitVec.ofInt 64 (n : Int)) ||| (BitVec.ofInt 64 ((b * 256 ^ k : Nat) : Int))).toNat : Int) = _
  rw [BitVec.ofInt_natCast, BitVec.ofInt_natCast, BitVec.toNat_or, BitVec.toNat_ofNat, BitVec.toNat_ofNat, Nat.mod_eq_of_lt (by omega), Nat.mod_eq_of_lt (by omega), Nat.or_comm]
  rw [show b * 256 ^ k = 2 ^ (8 * k) * b by rw [e, Nat.mul_comm], ← Nat.two_pow_add_eq_or_of_lt (by rw [← e]; exact hn)]
  rw [← e, Nat.mul_comm (256 ^ k) b]
  simp [IntKind.wrap, IntKind.bits, IntKind.signed]
  have : ((b * 256 ^ k + n : Nat) : Int) < 18446744073709551616 := by omega
  simp at this
  rw [Int.emod_eq_of_lt (by have : (0:Int) ≤ ((b * 256 ^ k + n : Nat) : Int) := Int.natCast_nonneg _
                            simpa using this) this]
  omega
theorem shl_lem (b k : Nat) (hk : k < 8) (hb : b < 256) : IntKind.u64.wrap ((b : Int) * 2 ^ (8 * (k : Int)).toNat) = (b : Int) * 256 ^ k := by
  have ht := top_lem b k hk hb
  rw [show (8 * (k : Int)).toNat = 8 * k by omega, Int.pow_mul]
  have : ((b * 256 ^ k : Nat) : Int) < 18446744073709551616 := by have := Nat.pos_of_ne_zero (show (256 : Nat) ^ k ≠ 0 by simp); omega
  simp at this
  simp [IntKind.wrap, IntKind.bits, IntKind.signed]
  exact Int.emod_eq_of_lt (by have : (0:Int) ≤ ((b * 256 ^ k : Nat) : Int) := Int.natCast_nonneg _
                              simpa using this) this
theorem w8_lem (k : Nat) (hk : k < 8) : IntKind.i64.wrap (8 * (k : Int)) = 8 * k := by
  simp [IntKind.wrap, IntKind.bits, IntKind.signed]; omega
theorem wb_lem (b : Nat) (hb : b < 256) : IntKind.u64.wrap (b : Int) = b := by
  simp [IntKind.wrap, IntKind.bits, IntKind.signed]; omega
set_option maxRecDepth 100000 in
set_option maxHeartbeats 1000000 in
theorem load1_any {w : World} (sv : Value) (l : List UInt8) (hb : BytesAt w sv l) (hlen : l.length ≤ 8) (pa : Nat) (hp : w.heap[pa]? = some (.cells #[.int .u64 0] 23)) (hap : ∀ ad n c, sv = .slice (some ad) n c → ad.block ≠ pa) :
    Calls Try.prog 104 #[sv, .pointer (some ⟨pa, 0, none⟩)] w fun r w' => r = .returned (.int .i64 0) ∧ w'.heap[pa]? = some (.cells #[.int .u64 (leF l)] 23) ∧ Moved (fun b => b = pa) w w' := by
  have HB0 := Lib.hid hb
  have HA := Lib.hid hap
  obtain ⟨a, c, rfl, hcell⟩ := hb
  clear hap
  go_enter Try.func104, Try.ntmps104
  go_wp2_with fail
  go_loopw [4, 5, 8] (fun _ _ i wr => ∃ k : Nat, k ≤ l.length ∧ i = .int .i64 k ∧ Hid (wr.heap[pa]? = some (.cells #[.int .u64 (leF (l.take k))] 23) ∧ Moved (fun b => b = pa) w wr)) (fun _ _ i _ => l.length - (intOf i).toNat)
  case atStart => exact ⟨0, Nat.zero_le _, rfl, hp, Moved.refl _ _⟩
  case round =>
    obtain ⟨k, hk, rfl, HW⟩ := hrel
    by_cases hlt : k < l.length
    · obtain ⟨bl, off, rfl, q0⟩ := hcell.2.2 k l[k] (List.getElem?_eq_getElem hlt)
      have d0 := HW.out.2.cell q0 (HA.out ⟨bl, off, none⟩ _ _ rfl)
      have HSN := Lib.hid (leF_take l k hlt)
      have hhi := leF_hi (l.take k)
      have hlo := leF_lo (l.take k)
      have hrow := HW.out.1
      generalize leF (l.take k) = u at *
      generalize l[k] = b at *
      have g0 : wr.cell? ⟨pa, 0, none⟩ = some (.int .u64 u) := by simp [World.cell?, hrow]
      have f0 := row_frozen hrow 0
      have HROW := Lib.hid hrow
      have hk8 : k < 8 := by omega
      have hb : b.toNat < 256 := b.toNat_lt
      rw [List.length_take, Nat.min_eq_left (Nat.le_of_lt hlt)] at hhi
      clear q0 hrow
      go_wp2_with fail
      refine wp_region_last Grew [[], [], [1], [], [3], [2, 4], [0, 5], [6]] [[(14, 1), (15, 2), (16, 3), (17, 4), (18, 5)], [(13, 0), (16, 3), (17, 4), (18, 5), (19, 6)], [(13, 0), (14, 1), (16, 3), (17, 4), (19, 6)], [(13, 0), (14, 1), (15, 2), (18, 5), (19, 6)], [(13, 0), (14, 1), (15, 2), (16, 3), (19, 6)], [(13, 0), (14, 1), (15, 2), (16, 3), (17, 4)], [(13, 0), (14, 1), (15, 2), (16, 3), (17, 4), (18, 5)], [(13, 0), (14, 1), (15, 2), (16, 3), (17, 4), (18, 5), (19, 6)]]
        [Is (.int .u64 u), Is (.int .u8 b.toNat), Is (.int .u64 b.toNat), Is (.int .i64 k), Is (.int .i64 (8 * k : Int)), Is (.int .u64 (b.toNat * 256 ^ k : Int)), Is (.int .u64 (u + b.toNat * 256 ^ k : Int))]
        (by kernel_rfl) Grew.trans Grew.refl (Grew.refl _).drew (by kernel_rfl) ⟨is_st, is_st, is_st, is_st, is_st, is_st, is_st, trivial⟩ rfl ⟨?_, ?_, ?_, ?_, ?_, ?_, ?_, trivial⟩ ?_ rfl
      · intro y w2 hG hD K hK
        have dg0 := hG.cell g0
        simp only [fillL, Act.put, List.setIfInBounds_toArray, List.set_cons_zero, List.set_cons_succ, List.getD_cons_zero, List.getD_cons_succ, Is] at hK ⊢
        refine ite_yes (by rfl) ?_
        go_simp
        exact hK _ _ _ rfl (Grew.refl _) rfl
      · intro y w2 hG hD K hK
        simp only [fillL, Act.put, List.setIfInBounds_toArray, List.set_cons_zero, List.set_cons_succ, List.getD_cons_zero, List.getD_cons_succ, Is] at hK ⊢
        refine ite_yes (by rfl) ?_
        go_simp
        exact hK _ _ _ rfl (Grew.refl _) rfl
      · intro y w2 hG hD K hK
        simp only [depsH, List.getD_cons_zero, List.getD_cons_succ, Is, and_true] at hD
        have h1 := hD
        clear hD
        simp only [fillL, Act.put, List.setIfInBounds_toArray, List.set_cons_zero, List.set_cons_succ, List.getD_cons_zero, List.getD_cons_succ, Is] at hK ⊢
        rw [h1] at hK ⊢
        clear h1
        refine ite_yes (by rfl) ?_
        go_simp
        exact hK _ _ _ rfl (Grew.refl _) (congrArg (Value.int _) (wb_lem b.toNat hb))
      · intro y w2 hG hD K hK
        simp only [fillL, Act.put, List.setIfInBounds_toArray, List.set_cons_zero, List.set_cons_succ, List.getD_cons_zero, List.getD_cons_succ, Is] at hK ⊢
        refine ite_yes (by rfl) ?_
        go_simp
        exact hK _ _ _ rfl (Grew.refl _) rfl
      · intro y w2 hG hD K hK
        simp only [depsH, List.getD_cons_zero, List.getD_cons_succ, Is, and_true] at hD
        have h3 := hD
        clear hD
        simp only [fillL, Act.put, List.setIfInBounds_toArray, List.set_cons_zero, List.set_cons_succ, List.getD_cons_zero, List.getD_cons_succ, Is] at hK ⊢
        rw [h3] at hK ⊢
        clear h3
        refine ite_yes (by rfl) ?_
        go_simp
        exact hK _ _ _ rfl (Grew.refl _) (congrArg (Value.int _) (w8_lem k hk8))
      · intro y w2 hG hD K hK
        simp only [depsH, List.getD_cons_zero, List.getD_cons_succ, Is, and_true] at hD
        have h2 := hD.1
        have h4 := hD.2
        clear hD
        simp only [fillL, Act.put, List.setIfInBounds_toArray, List.set_cons_zero, List.set_cons_succ, List.getD_cons_zero, List.getD_cons_succ, Is] at hK ⊢
        rw [h2, h4] at hK ⊢
        clear h2 h4
        refine ite_yes (by rfl) ?_
        go_simp
        exact hK _ _ _ rfl (Grew.refl _) (congrArg (Value.int _) (shl_lem b.toNat k hk8 hb))
      · intro y w2 hG hD K hK
        simp only [depsH, List.getD_cons_zero, List.getD_cons_succ, Is, and_true] at hD
        have h0 := hD.1
        have h5 := hD.2
        clear hD
        simp only [fillL, Act.put, List.setIfInBounds_toArray, List.set_cons_zero, List.set_cons_succ, List.getD_cons_zero, List.getD_cons_succ, Is] at hK ⊢
        rw [h0, h5] at hK ⊢
        clear h0 h5
        refine ite_yes (by rfl) ?_
        go_simp
        exact hK _ _ _ rfl (Grew.refl _) (congrArg (Value.int _) (or_lem u b.toNat k hk8 hlo hhi hb))
      · intro y w2 hG hF K hK
        simp only [factsH, Is, and_true, Nat.reduceAdd] at hF
        have h0 := hF.1
        have h1 := hF.2.1
        have h2 := hF.2.2.1
        have h3 := hF.2.2.2.1
        have h4 := hF.2.2.2.2.1
        have h5 := hF.2.2.2.2.2.1
        have h6 := hF.2.2.2.2.2.2
        clear hF
        simp only [lastOf]
        simp only [fillL, Act.put, List.setIfInBounds_toArray, List.set_cons_zero, List.set_cons_succ, List.getD_cons_zero, List.getD_cons_succ, Is] at hK ⊢
        rw [h0, h1, h2, h3, h4, h5, h6]
        clear h0 h1 h2 h3 h4 h5 h6
        refine ite_yes (by rfl) ?_
        have dg0 := hG.cell g0
        have hr2 := hG.heap HROW.out
        have df0 := row_frozen hr2 0
        go_simp
        refine hK _ _ ?_
        have HR2 := Lib.hid hr2
        have HG2 := Lib.hid hG
        clear hr2 hG dg0 df0
        go_wp2
        go_roundw
        case rel =>
          refine ⟨k + 1, by omega, by go_num, ?_⟩
          show _ ∧ _
          rw [HSN.out]
          exact ⟨by have := heap_setCell_same w2 pa 0 _ _ (.int .u64 (u + b.toNat * 256 ^ k)) HR2.out; simpa using this, Moved.setCell (p := ⟨pa, 0, none⟩) (HW.out.2.trans' (Moved.of_grew HG2.out)) (fun _ => rfl) _⟩
        case measure => simp [intOf]; omega
    · have e : k = l.length := by omega
      have hw := HW.out
      rw [e, List.take_length] at hw
      have HF := Lib.hid hw
      clear hw HW
      go_wp2
      go_ret
      exact ⟨rfl, HF.out⟩


theorem row_cell1 {w : World} {p : Nat} {cs : Array Value} {t : TypeId} (h : w.heap[p]? = some (.cells cs t (0, 0))) (k : Nat) (v : Value) (hv : cs[k]? = some v) : w.cell? ⟨p, k, none⟩ = some v := by
  simp [World.cell?, h, hv]
def loadF (l : List UInt8) (at_ x : Int) : Int × Int := if isW x = true then (if at_ < 0 ∨ at_ > l.length - x then (0, 6) else (leF ((l.drop at_.toNat).take x.toNat), 0)) else (0, 2)
theorem bytes_cut {w : World} {bl off : Nat} {c : Nat} {l : List UInt8} (hb : BytesAt w (.slice (some ⟨bl, off, none⟩) l.length c) l) (k x c2 : Nat) (h : k + x ≤ l.length) (hc : x ≤ c2) : BytesAt w (.slice (some ⟨bl, off + k, none⟩) x c2) ((l.drop k).take x) := by
  obtain ⟨a, c', e, _, _, h4⟩ := hb
  cases e
  refine ⟨some ⟨bl, off + k, none⟩, c2, by simp; omega, by simp; omega, fun h => (by cases h), fun i b hi => ?_⟩
  rw [List.getElem?_take] at hi
  split at hi
  · rw [List.getElem?_drop] at hi
    obtain ⟨bl', off', e, hcell⟩ := h4 (k + i) b hi
    cases e
    exact ⟨bl, off + k, rfl, by rw [Nat.add_assoc]; exact hcell⟩
  · cases hi
set_option maxRecDepth 100000 in
set_option maxHeartbeats 1000000 in
theorem withinD_any {w : World} (sv : Value) (l : List UInt8) (hb : BytesAt w sv l) (hlen : l.length ≤ 1073741824) (at_ x : Int) (ha : i64ok at_) (pa : Nat) (hp : w.heap[pa]? = some (.cells #[.int .u64 0] 23)) (hap : ∀ ad n c, sv = .slice (some ad) n c → ad.block ≠ pa) :
    Calls Try.prog 103 #[sv, .int .i64 at_, .int .i64 x, fnv 104 #[.pointer (some ⟨pa, 0, none⟩)]] w fun r w' => r = .returned (.int .i64 (loadF l at_ x).2) ∧ w'.heap[pa]? = some (.cells #[.int .u64 (loadF l at_ x).1] 23) ∧ Moved (fun b => b = pa) w w' := by
  have HB0 := Lib.hid hb
  have HA := Lib.hid hap
  have HP := Lib.hid hp
  obtain ⟨a, c, rfl, hcell⟩ := hb
  have hc := hcell.1
  have HC := Lib.hid hcell.2.2
  clear hap hcell hp
  unfold loadF
  by_cases hx : isW x = true
  · rw [if_pos hx]
    have HX := Lib.hid hx
    by_cases hr : at_ < 0 ∨ at_ > l.length - x
    · rw [if_pos hr]
      have hx1 : 1 ≤ x ∧ x ≤ 8 := by rcases isW_cases hx with rfl | rfl | rfl | rfl <;> omega
      go_enter Try.func103, Try.ntmps103
      go_wp2_with fail
      refine (leis_any x _).mono ?_
      rw [HX.out]
      rintro r w1 ⟨rfl, rfl⟩
      by_cases h0 : at_ < 0
      · go_wp2
        go_ret
        exact ⟨rfl, HP.out, Moved.refl _ _⟩
      · have h1 : (l.length : Int) - x < at_ := by omega
        go_wp2
        go_ret
        exact ⟨rfl, HP.out, Moved.refl _ _⟩
    · rw [if_neg hr]
      have hx1 : 1 ≤ x ∧ x ≤ 8 := by rcases isW_cases hx with rfl | rfl | rfl | rfl <;> omega
      obtain ⟨k, rfl⟩ := Int.eq_ofNat_of_zero_le (show 0 ≤ at_ by omega)
      obtain ⟨y, rfl⟩ := Int.eq_ofNat_of_zero_le (show 0 ≤ x by omega)
      have hky : k + y ≤ l.length := by omega
      obtain ⟨bl, off, rfl, _⟩ := HC.out 0 l[0] (List.getElem?_eq_getElem (by omega))
      go_enter Try.func103, Try.ntmps103
      go_wp2_with fail
      refine (leis_any y _).mono ?_
      rw [HX.out]
      rintro r w1 ⟨rfl, rfl⟩
      go_wp2_with fail
      refine (load1_any _ ((l.drop k).take y) (bytes_cut HB0.out k y (c - k) hky (by omega)) (by simp; omega) pa HP.out (fun ad n c' e => by cases e; exact HA.out ⟨bl, off, none⟩ _ _ rfl)).mono ?_
      rintro r w2 ⟨rfl, hrow, hm⟩
      have HR := Lib.hid hrow
      have HM := Lib.hid hm
      clear hrow hm
      go_wp2
      go_ret
      exact ⟨rfl, by simpa using HR.out, HM.out⟩
  · rw [if_neg hx]
    have HX := Lib.hid (show isW x = false by simpa using hx)
    clear hx
    go_enter Try.func103, Try.ntmps103
    go_wp2_with fail
    refine (leis_any x _).mono ?_
    rw [HX.out]
    rintro r w1 ⟨rfl, rfl⟩
    go_wp2
    go_ret
    exact ⟨rfl, HP.out, Moved.refl _ _⟩
set_option maxRecDepth 100000 in
set_option maxHeartbeats 1000000 in
theorem loadD_any {w : World} (sv : Value) (l : List UInt8) (hb : BytesAt w sv l) (hlen : l.length ≤ 1073741824) (at_ x : Int) (ha : i64ok at_) (hap : ∀ ad n c, sv = .slice (some ad) n c → ad.block < w.heap.size) :
    Calls Try.prog 84 #[sv, .int .i64 at_, .int .i64 x] w fun r w' => r = .returned (.tuple #[.int .u64 (loadF l at_ x).1, .int .i64 (loadF l at_ x).2]) ∧ Grew w w' := by
  have HB0 := Lib.hid hb
  have HA := Lib.hid hap
  have hmf : ∀ (fn : Fn) (first cap : Array Value) (w : World), (Instr.makeFunc fn first cap).run Try.prog w = .ok (.func fn first cap) w := fun _ _ _ _ => rfl
  obtain ⟨a, c, rfl, hcell⟩ := hb
  clear hap hcell
  go_enter Try.func84, Try.ntmps84
  go_wp2_with fail
  refine (withinD_any _ l (HB0.out.grew ((Grew.refl w).alloc _)) hlen at_ x ha w.heap.size (heap_alloc_new _ _) (fun ad n c' e => by have := HA.out ad n c' e; omega)).mono ?_
  rintro r w2 ⟨rfl, hrow, hm⟩
  have g0 : w2.cell? ⟨w.heap.size, 0, none⟩ = some (.int .u64 (loadF l at_ x).1) := row_cell1 hrow 0 _ rfl
  have f0 := row_frozen hrow 0
  have HM := Lib.hid hm
  clear hrow hm
  obtain ⟨q, hq⟩ : ∃ q, q = loadF l at_ x := ⟨_, rfl⟩
  rw [← hq] at g0 ⊢
  have hm2 : Moved (fun b => b = w.heap.size) w w2 := ((Moved.refl _ w).alloc _).trans HM.out (fun _ _ h => h)
  have HG : Hid (Grew w w2) := hm2.below (Nat.le_refl _) (fun k e => by omega)
  clear hm2
  go_wp2
  refine bodyPost_ret (v := .tuple #[.int .u64 q.1, .int .i64 q.2]) ?_ rfl ⟨by rw [hq], ?_⟩
  · simp [results, Try.results84, go_sem, g0, hq]
  · exact HG.out.setCell (Nat.le_refl _) _


theorem loadF_ok {l : List UInt8} {at_ x : Int} (h : (loadF l at_ x).2 = 0) : isW x = true ∧ 0 ≤ (loadF l at_ x).1 ∧ (loadF l at_ x).1 < 256 ^ x.toNat := by
  revert h
  unfold loadF
  split
  · rename_i hx
    split
    · simp
    · intro _
      refine ⟨hx, leF_lo _, ?_⟩
      refine Int.lt_of_lt_of_le (leF_hi _) ?_
      have h1 : ((l.drop at_.toNat).take x.toNat).length ≤ x.toNat := by simp; omega
      have h2 := Nat.pow_le_pow_right (n := 256) (by decide) h1
      have : ((256 ^ ((l.drop at_.toNat).take x.toNat).length : Nat) : Int) ≤ ((256 ^ x.toNat : Nat) : Int) := Int.ofNat_le.2 h2
      simpa using this
  · simp
/-- The signed reading of a number of x bytes. -/
def sgnF (u x : Int) : Int := if u < 2 ^ (8 * x.toNat - 1) then u else u - 2 ^ (8 * x.toNat)
def loadIntF (l : List UInt8) (at_ x : Int) : Int × Int := if (loadF l at_ x).2 = 0 then (sgnF (loadF l at_ x).1 x, 0) else (0, (loadF l at_ x).2)
set_option maxRecDepth 100000 in
set_option maxHeartbeats 1000000 in
theorem loadIntD_any {w : World} (sv : Value) (l : List UInt8) (hb : BytesAt w sv l) (hlen : l.length ≤ 1073741824) (at_ x : Int) (ha : i64ok at_) (hap : ∀ ad n c, sv = .slice (some ad) n c → ad.block < w.heap.size) :
    Calls Try.prog 112 #[sv, .int .i64 at_, .int .i64 x] w fun r w' => r = .returned (.tuple #[.int .i64 (loadIntF l at_ x).1, .int .i64 (loadIntF l at_ x).2]) ∧ Grew w w' := by
  have HL : Hid (Calls Try.prog 84 #[sv, .int .i64 at_, .int .i64 x] w fun r w' => r = .returned (.tuple #[.int .u64 (loadF l at_ x).1, .int .i64 (loadF l at_ x).2]) ∧ Grew w w') := loadD_any sv l hb hlen at_ x ha hap
  have hok := loadF_ok (l := l) (at_ := at_) (x := x)
  unfold loadIntF
  clear hb hap
  generalize loadF l at_ x = q at *
  obtain ⟨u, e⟩ := q
  simp only at hok ⊢
  by_cases he : e = 0
  · subst he
    obtain ⟨hx, u0, u1⟩ := hok rfl
    simp only [if_true]
    rcases isW_cases hx with rfl | rfl | rfl | rfl
    all_goals
      simp at u1
      clear hx
      go_enter Try.func112, Try.ntmps112
      go_wp2_with fail
      refine HL.out.mono ?_
      rintro r w2 ⟨rfl, hg⟩
      have HG := Lib.hid hg
      clear hg
      go_wp2
      go_ret2
      refine ⟨?_, HG.out⟩
      congr 2
      simp [sgnF, IntKind.wrap, IntKind.bits, IntKind.signed]
      unfold wrap64
      split <;> omega
  · rw [if_neg he]
    go_enter Try.func112, Try.ntmps112
    go_wp2_with fail
    refine HL.out.mono ?_
    rintro r w2 ⟨rfl, hg⟩
    have HG := Lib.hid hg
    clear hg
    go_wp2
    go_ret2
    exact ⟨rfl, HG.out⟩
end Go.Proofs.Ytlhliolknaopjaa

/-
  Walks of package tag: kinds, of, Inline. Each returns what the plain table says, for every number. The world only grows.
-/
namespace Go.Proofs.Ytlhliolknaopjaa.Ft
set_option linter.unusedSimpArgs false
set_option linter.unusedVariables false
open Go Go.RowKit

def zeros (n : Nat) : Array Value := Array.replicate n (.int .i64 0)
def kindRow (t : Nat) : Nat × Nat × Nat :=
  match t with
  | 0 | 1 | 2 | 26 => (1, 0, 0)
  | 4 | 5 | 6 | 7 | 9 | 10 | 25 => (2, 0, 0)
  | 11 => (3, 1, 0) | 12 => (3, 2, 0) | 14 => (3, 4, 0) | 36 => (3, 26, 0)
  | 16 => (3, 1, 2) | 19 => (3, 1, 3) | 22 => (3, 1, 4)
  | 17 => (3, 2, 2) | 20 => (3, 2, 3) | 23 => (3, 2, 4)
  | _ => (0, 0, 0)
def cells3 (p : Nat × Nat × Nat) : Array Value := #[.int .i64 p.1, .int .i64 p.2.1, .int .i64 p.2.2]
def kindsArr : Array Value := ((List.range 37).flatMap fun t => (cells3 (kindRow t)).toList).toArray
def kindOf (t : Int) : Nat × Nat × Nat := if t < 0 then (0, 0, 0) else kindRow t.toNat

theorem zeroKinds (w : World) : (zeroValue 105).run Try.prog w = .ok (.agg (zeros 111)) w := by kernel_rfl
theorem sizeKinds : (Try.prog.info? 105).map (·.size) = some kindsArr.size := by kernel_rfl
theorem aggKind (w : World) : (isAgg 88).run Try.prog w = .ok true w := by kernel_rfl

theorem kindsArr_extract : ∀ (t : Nat), t < 37 → kindsArr.extract (t * 3) (t * 3 + 3) = cells3 (kindRow t)
  | 0, _ => rfl
  | 1, _ => rfl
  | 2, _ => rfl
  | 3, _ => rfl
  | 4, _ => rfl
  | 5, _ => rfl
  | 6, _ => rfl
  | 7, _ => rfl
  | 8, _ => rfl
  | 9, _ => rfl
  | 10, _ => rfl
  | 11, _ => rfl
  | 12, _ => rfl
  | 13, _ => rfl
  | 14, _ => rfl
  | 15, _ => rfl
  | 16, _ => rfl
  | 17, _ => rfl
  | 18, _ => rfl
  | 19, _ => rfl
  | 20, _ => rfl
  | 21, _ => rfl
  | 22, _ => rfl
  | 23, _ => rfl
  | 24, _ => rfl
  | 25, _ => rfl
  | 26, _ => rfl
  | 27, _ => rfl
  | 28, _ => rfl
  | 29, _ => rfl
  | 30, _ => rfl
  | 31, _ => rfl
  | 32, _ => rfl
  | 33, _ => rfl
  | 34, _ => rfl
  | 35, _ => rfl
  | 36, _ => rfl
  | n + 37, h => absurd h (by omega)

set_option maxRecDepth 100000 in
set_option maxHeartbeats 400000 in
theorem kinds_any (w : World) :
    Calls Try.prog 96 #[] w fun e w' => e = .returned (.agg kindsArr) ∧ Grew w w' := by
  have hz := zeroKinds
  go_enter Try.func96, Try.ntmps96
  go_wp2_with (first | (with_reducible refine wpList_build_eq rfl 105 _ rfl kindsArr (by kernel_rfl) ?_) | (with_reducible refine wpList_store_row rfl 105 _ _ rfl w.heap.size kindsArr rfl (by kernel_rfl) 105 (zeros 111) (heap_alloc_new _ _) sizeKinds (by kernel_rfl) (by kernel_rfl) ?_))
  rw [setRow_alloc]
  exact bodyPost_ret (results_cell_row (cs := kindsArr) rfl _ _ w.heap.size 105 (0, 0) _ (by rfl) (heap_alloc_new _ _) Try.underlying105 rfl sizeKinds) rfl ⟨rfl, (Grew.refl w).alloc _⟩

set_option maxHeartbeats 400000 in
theorem of_any (t : Int) (w : World) :
    Calls Try.prog 72 #[.int .i64 t] w fun e w' => e = .returned (.agg (cells3 (kindOf t))) ∧ Grew w w' := by
  by_cases h0 : t < 0
  · go_enter Try.func72, Try.ntmps72
    go_wp2
    exact bodyPost_ret (v := .agg (cells3 (kindOf t))) (by simp [results, Try.results72, go_sem, cells3, kindOf, h0]) rfl ⟨rfl, (Grew.refl w).alloc _⟩
  · by_cases h1 : 37 ≤ t
    · have hk : kindOf t = (0, 0, 0) := by
        unfold kindOf
        rw [if_neg h0]
        obtain ⟨n, rfl⟩ := Int.eq_ofNat_of_zero_le (by omega : 0 ≤ t)
        obtain ⟨m, rfl⟩ : ∃ m, n = m + 37 := ⟨n - 37, by omega⟩
        rfl
      go_enter Try.func72, Try.ntmps72
      go_wp2
      exact bodyPost_ret (v := .agg (cells3 (kindOf t))) (by simp [results, Try.results72, go_sem, cells3, hk]) rfl ⟨by rw [hk], (Grew.refl w).alloc _⟩
    · have hk : kindOf t = kindRow t.toNat := by unfold kindOf; rw [if_neg h0]
      have hx := fun w' => run_index_agg (P := Try.prog) 105 88 37 3 kindsArr .i64 t w' Try.underlying105 (aggKind w') (by kernel_rfl) (by omega) (by omega)
      rw [kindsArr_extract t.toNat (by omega), ← hk] at hx
      generalize kindOf t = k at *
      clear hk
      go_enter Try.func72, Try.ntmps72
      unfold cells3 at hx
      go_wp2_with fail
      refine (kinds_any _).mono ?_
      rintro e w1 ⟨rfl, hg⟩
      obtain ⟨hc, hf, hs⟩ := hg.rules
      simp only [World.size_alloc] at hc hf hs
      go_wp2
      exact bodyPost_ret (v := .agg (cells3 k)) (by simp [results, Try.results72, go_sem, cells3, hc, hf]) rfl ⟨rfl, (((((Grew.refl w).alloc _).trans hg).setCell (by simp) _).setCell (by simp) _).setCell (by simp) _⟩

@[local go_sem] theorem field_is (a b c : Value) (w : World) : (Instr.field 88 (.agg #[a, b, c]) 0).run Try.prog w = .ok a w := by kernel_rfl
def inlineB (t : Int) : Bool := decide ((kindOf t).1 = 1)
set_option maxHeartbeats 400000 in
theorem inline_any (t : Int) (w : World) :
    Calls Try.prog 48 #[.int .i64 t] w fun e w' => e = .returned (.bool (inlineB t)) ∧ Grew w w' := by
  go_enter Try.func48, Try.ntmps48
  go_wp2_with fail
  refine (of_any _ _).mono ?_
  rintro e w1 ⟨rfl, hg⟩
  have hi : (((kindOf t).1 : Int) == 1) = inlineB t := by unfold inlineB; rw [Bool.eq_iff_iff]; simp; omega
  unfold cells3
  go_wp2
  go_ret
  exact ⟨by rw [← hi]; rfl, hg⟩

end Go.Proofs.Ytlhliolknaopjaa.Ft

/-
  Package tag: Legal, Pack, Unpack, Elem. Maps that a call fills with int keys.
-/
namespace Go.Proofs.Ytlhliolknaopjaa.Ft
open Go Go.RowKit
set_option linter.unusedVariables false
set_option linter.unusedSimpArgs false

def legalB (t : Int) : Bool := decide ((kindOf t).1 ≠ 0)
set_option maxHeartbeats 400000 in
theorem legal_any (t : Int) (w : World) :
    Calls Try.prog 43 #[.int .i64 t] w fun e w' => e = .returned (.bool (legalB t)) ∧ Grew w w' := by
  go_enter Try.func43, Try.ntmps43
  go_wp2_with fail
  refine (of_any _ _).mono ?_
  rintro e w1 ⟨rfl, hg⟩
  have hi : (((kindOf t).1 : Int) != 0) = legalB t := by unfold legalB; rw [Bool.eq_iff_iff]; simp
  unfold cells3
  have hf := field_is
  go_wp2
  go_ret
  exact ⟨by rw [← hi]; rfl, hg⟩
theorem legal_range {t : Int} (h : legalB t = true) : 0 ≤ t ∧ t ≤ 36 := by
  unfold legalB kindOf at h
  simp at h
  by_cases h0 : t < 0
  · simp [h0] at h
  · refine ⟨by omega, ?_⟩
    by_cases h1 : t ≤ 36
    · exact h1
    · exfalso
      rw [if_neg h0] at h
      obtain ⟨n, rfl⟩ := Int.eq_ofNat_of_zero_le (by omega : 0 ≤ t)
      obtain ⟨m, rfl⟩ : ∃ m, n = m + 37 := ⟨n - 37, by omega⟩
      exact h rfl

/-! ### maps with int keys that a call fills -/
section
variable {P : Program}
end

/-- Unpack: type, width, error. -/
def unpackF (c : Nat) : Int × Int × Int := if legalB ((c / 4 : Nat) : Int) then (((c / 4 : Nat) : Int), 2 ^ (c % 4), 0) else (0, 0, 20)
set_option maxHeartbeats 1000000 in
theorem unpack_any (c : Nat) (w : World) (hc : c < 256) :
    Calls Try.prog 22 #[.int .u8 c] w fun e w' => e = .returned (.tuple #[.int .i64 (unpackF c).1, .int .i64 (unpackF c).2.1, .int .i64 (unpackF c).2.2]) ∧ Grew w w' := by
  go_enter Try.func22, Try.ntmps22
  go_wp2_with fail
  refine (legal_any _ _).mono ?_
  by_cases h : legalB ((c : Int) / 4) = true
  · have h2 : legalB ((c / 4 : Nat) : Int) = true := by rw [Int.natCast_ediv]; exact h
    have HP : Hid (unpackF c = (((c / 4 : Nat) : Int), 2 ^ (c % 4), 0)) := by show _ = _; rw [unpackF, if_pos h2]
    rw [h]
    clear h h2
    rintro e w1 ⟨rfl, hg⟩
    have hm : c % 4 = 0 ∨ c % 4 = 1 ∨ c % 4 = 2 ∨ c % 4 = 3 := by omega
    have HM := Lib.hid hm
    clear hm
    have hw : wrap64 ((2 : Int) ^ (c % 4)) = 2 ^ (c % 4) := by
      rcases HM.out with h | h | h | h <;> rw [h] <;> (unfold wrap64; decide)
    have HW := Lib.hid hw
    clear hw
    go_wp2
    go_ret3
    refine ⟨?_, hg⟩
    rw [HP.out]
    show Ending.returned (.tuple #[.int .i64 ((c : Int) / 4), .int .i64 (wrap64 ((2 : Int) ^ (c % 4))), .int .i64 0]) = _
    rw [HW.out, Int.natCast_ediv]
    rfl
  · have h2 : ¬ legalB ((c / 4 : Nat) : Int) = true := by rw [Int.natCast_ediv]; exact h
    have HP : Hid (unpackF c = (0, 0, 20)) := by show _ = _; rw [unpackF, if_neg h2]
    rw [show legalB ((c : Int) / 4) = false by simpa using h]
    clear h h2
    rintro e w1 ⟨rfl, hg⟩
    go_wp2
    go_ret3
    exact ⟨by rw [HP.out]; rfl, hg⟩


/-- Elem: the elements' type and number, and whether it is a vector. -/
def elemF (t : Int) : Int × Int × Bool := ((kindOf t).2.1, (kindOf t).2.2, decide ((kindOf t).1 = 3))
set_option maxHeartbeats 400000 in
theorem elem_any (t : Int) (w : World) :
    Calls Try.prog 83 #[.int .i64 t] w fun e w' => e = .returned (.tuple #[.int .i64 (elemF t).1, .int .i64 (elemF t).2.1, .bool (elemF t).2.2]) ∧ Grew w w' := by
  go_enter Try.func83, Try.ntmps83
  go_wp2_with fail
  refine (of_any _ _).mono ?_
  rintro e w1 ⟨rfl, hg⟩
  have hi : (((kindOf t).1 : Int) == 3) = (elemF t).2.2 := by unfold elemF; rw [Bool.eq_iff_iff]; simp; omega
  have HI := Lib.hid hi
  clear hi
  unfold cells3
  obtain ⟨hc, hr, hs⟩ := hg.rules
  go_wp2
  try go_quiet (fail)
  try go_wp2
  go_ret3
  first
    | exact ⟨by rw [← HI.out]; rfl, ((((hg.alloc _)).setCell (by simp; omega) _).setCell (by simp; omega) _).setCell (by simp; omega) _⟩
    | exact ⟨by rw [← HI.out]; rfl, below_drewN (hg.alloc _) _⟩
end Go.Proofs.Ytlhliolknaopjaa.Ft

/-
  Trees: rows of nodes and of strings that the call makes; appending to them; small calls on strings.
-/
namespace Go.Proofs.Ytlhliolknaopjaa
open Go Go.ChangeShapes Go.WideShapes Go.ChangeAt Go.RowKit Go.Joins Go.Deep
set_option linter.unusedVariables false
set_option linter.unusedSimpArgs false

theorem row_cellT {w : World} {p : Nat} {cs : Array Value} {t : TypeId} (h : w.heap[p]? = some (.cells cs t (0, 0))) (k : Nat) (v : Value) (hv : cs[k]? = some v) : w.cell? ⟨p, k, none⟩ = some v := by
  rw [cell_of_row w p k _ _ _ h]; exact hv
def zeroNode : Value := .agg #[.int .i64 0, .int .i64 0, .int .u64 0, .string ⟨#[]⟩, .slice none 0 0, .slice none 0 0]
/-- The cells of a node's value. -/
def cells6 : Value → List Value
  | .agg cs => cs.toList
  | _ => []
/-- A value of the node's form. -/
def Node6 (v : Value) : Prop := ∃ (k n u : Int) (s : ByteArray) (a4 : Option Addr) (n4 c4 : Nat) (a5 : Option Addr) (n5 c5 : Nat), v = .agg #[.int .i64 k, .int .i64 n, .int .u64 u, .string s, .slice a4 n4 c4, .slice a5 n5 c5]
set_option maxRecDepth 100000 in
theorem Try.infoNode : (Try.prog.info? 27).map (fun i => (i.zero, i.size, i.bytes)) = some (some zeroNode, 6, 88) := by kernel_rfl
theorem node_parts : ∃ i0, Try.prog.info? 27 = some i0 ∧ i0.zero = some zeroNode ∧ i0.size = 6 ∧ i0.bytes = 88 := by
  have h := Try.infoNode
  cases hq : Try.prog.info? 27 with
  | none => simp [hq] at h
  | some i => simp [hq] at h; exact ⟨i, rfl, h.1, h.2.1, h.2.2⟩
theorem Try.infoStr : (Try.prog.info? 9).map (fun i => (i.zero, i.size, i.bytes)) = some (some (.string ⟨#[]⟩), 1, 16) := by kernel_rfl
theorem str_parts : ∃ i0, Try.prog.info? 9 = some i0 ∧ i0.zero = some (.string ⟨#[]⟩) ∧ i0.size = 1 ∧ i0.bytes = 16 := by
  have h := Try.infoStr
  cases hq : Try.prog.info? 9 with
  | none => simp [hq] at h
  | some i => simp [hq] at h; exact ⟨i, rfl, h.1, h.2.1, h.2.2⟩
theorem cells6_length {v : Value} (h : Node6 v) : (cells6 v).length = 6 := by
  obtain ⟨k, n, u, s, a4, n4, c4, a5, n5, c5, rfl⟩ := h; rfl
theorem cells6_one {v : Value} (h : Node6 v) : ∀ u ∈ cells6 v, u.oneCell' = true := by
  obtain ⟨k, n, u, s, a4, n4, c4, a5, n5, c5, rfl⟩ := h
  intro x hx
  simp only [cells6, List.mem_cons, List.not_mem_nil, or_false] at hx
  rcases hx with rfl | rfl | rfl | rfl | rfl | rfl <;> rfl
theorem rows_form {w : World} {B : Nat} {e : TypeId} {size : Nat} {v : Value} {n : Nat} {xs : List Value} (h : w.ownsRow B e size v n xs) : ∃ a c, v = .slice a n c ∧ n ≤ c ∧ lenok c ∧ (a = none → c = 0) := by
  rcases h.2 with ⟨rfl, hn⟩ | ⟨g, cap, cur, rfl, _, _, hn, hm, _⟩
  · exact ⟨none, 0, by rw [hn], by omega, by unfold lenok; omega, fun _ => rfl⟩
  · exact ⟨_, cap, rfl, hn, by unfold maxLen at hm; exact hm, (fun h => by cases h)⟩
theorem rows_base {w : World} {B B' : Nat} {e : TypeId} {size : Nat} {v : Value} {n : Nat} {xs : List Value} (h : w.ownsRow B e size v n xs) (hb : B' ≤ B) : w.ownsRow B' e size v n xs := by
  obtain ⟨h1, h2⟩ := h
  refine ⟨h1, ?_⟩
  rcases h2 with h2 | ⟨g, cap, cur, hv, hg, r⟩
  · exact .inl h2
  · exact .inr ⟨g, cap, cur, hv, by omega, r⟩
theorem rows_grew {w w' : World} {B : Nat} {e : TypeId} {size : Nat} {v : Value} {n : Nat} {xs : List Value} (h : w.ownsRow B e size v n xs) (hg : Grew w w') : w'.ownsRow B e size v n xs := Moved.owns (Moved.of_grew (S := fun _ => False) hg) h (fun _ _ h => h)
/-- A row of nodes of one's own. -/
def OwnN (w : World) (B : Nat) (v : Value) (vs : List Value) : Prop := w.ownsRow B 27 6 v vs.length (vs.flatMap cells6) ∧ ∀ x ∈ vs, Node6 x
/-- A row of strings of one's own. -/
def OwnS (w : World) (B : Nat) (v : Value) (ss : List ByteArray) : Prop := w.ownsRow B 9 1 v ss.length (ss.map Value.string)
theorem OwnN.nil (w : World) (B : Nat) : OwnN w B (.slice none 0 0) [] := ⟨World.ownsRow_nil _ _ _ _, by simp⟩
theorem OwnS.nil (w : World) (B : Nat) : OwnS w B (.slice none 0 0) [] := World.ownsRow_nil _ _ _ _
theorem OwnN.grew {w w' : World} {B : Nat} {v : Value} {vs : List Value} (h : OwnN w B v vs) (hg : Grew w w') : OwnN w' B v vs := ⟨rows_grew h.1 hg, h.2⟩
theorem OwnS.grew {w w' : World} {B : Nat} {v : Value} {ss : List ByteArray} (h : OwnS w B v ss) (hg : Grew w w') : OwnS w' B v ss := rows_grew h hg
theorem add0 (g j : Nat) : (⟨g, 0, none⟩ : Addr).add j = ⟨g, 0 + j, none⟩ := add_off _ g 0 j rfl
theorem OwnS.strs {w : World} {B : Nat} {v : Value} {ss : List ByteArray} (h : OwnS w B v ss) (hz : ∀ s ∈ ss, lenok s.size) : StrsAt w v ss := by
  obtain ⟨a, c, rfl, h1, h2, h3⟩ := rows_form h
  refine ⟨a, c, rfl, h1, h2, h3, fun i s hs => ⟨hz s (List.mem_of_getElem? hs), ?_⟩⟩
  rcases h.2 with ⟨e, hn⟩ | ⟨g, cap, cur, e, _⟩
  · have : ss = [] := List.length_eq_zero_iff.1 hn
    subst this; simp at hs
  · cases e
    have := World.ownsRow.cells h (g := g) rfl i (.string s) (by simp [hs])
    rw [add0] at this
    exact ⟨g, 0, rfl, this⟩
theorem flat6_get {vs : List Value} (h6 : ∀ x ∈ vs, Node6 x) {i : Nat} {x : Value} (hx : vs[i]? = some x) (j : Nat) (hj : j < 6) : (vs.flatMap cells6)[i * 6 + j]? = (cells6 x)[j]? := by
  induction vs generalizing i with
  | nil => simp at hx
  | cons y r ih =>
    have hy := cells6_length (h6 y (by simp))
    rw [List.flatMap_cons]
    cases i with
    | zero =>
      simp at hx; subst hx
      rw [List.getElem?_append_left (by omega)]
      simp
    | succ i =>
      rw [List.getElem?_append_right (by omega), hy, show (i + 1) * 6 + j - 6 = i * 6 + j by omega]
      exact ih (fun x hx => h6 x (by simp [hx])) (by simpa using hx)
theorem OwnN.rows {w : World} {B : Nat} {v : Value} {vs : List Value} (h : OwnN w B v vs) : RowsAt w v vs := by
  obtain ⟨hr, h6⟩ := h
  obtain ⟨a, c, rfl, h1, h2, h3⟩ := rows_form hr
  refine ⟨a, c, rfl, h1, h2, h3, fun i x hx => ?_⟩
  rcases hr.2 with ⟨e, hn⟩ | ⟨g, cap, cur, e, _⟩
  · have : vs = [] := List.length_eq_zero_iff.1 hn
    subst this; simp at hx
  · cases e
    have hc := World.ownsRow.cells hr (g := g) rfl
    have hf := flat6_get h6 hx
    obtain ⟨k, n, u, s, a4, n4, c4, a5, n5, c5, rfl⟩ := h6 x (List.mem_of_getElem? hx)
    have q := fun j hj u (hu : (cells6 _)[j]? = some u) => hc (i * 6 + j) u ((hf j hj).trans hu)
    have q0 := q 0 (by omega) _ rfl
    have q1 := q 1 (by omega) _ rfl
    have q2 := q 2 (by omega) _ rfl
    have q3 := q 3 (by omega) _ rfl
    have q4 := q 4 (by omega) _ rfl
    have q5 := q 5 (by omega) _ rfl
    rw [add0] at q0 q1 q2 q3 q4 q5
    exact ⟨g, 0, rfl, _, _, _, _, _, _, rfl, q0, by simpa [Nat.add_assoc] using q1, by simpa [Nat.add_assoc] using q2, by simpa [Nat.add_assoc] using q3, by simpa [Nat.add_assoc] using q4, by simpa [Nat.add_assoc] using q5⟩
/-- One node's cells as a block. -/
def rowN (v : Value) : Obj := .cells (cells6 v).toArray 27 (0, 0)
theorem wpList_appendN {ops : Array Oper} {rest : List Oper} {o : Oper} {a : Act} {w : World} {Q : Exit → Act → World → Prop} (hgd : o.guard = none) (s x : Operand)
    (ho : o.op = .call { callee := .builtin .append, args := #[s, x], argTypes := #[25, 25] }) (B : Nat) (v : Value) (vs : List Value) (hs : a.eval s = v) (hown : OwnN w B v vs)
    (g c : Nat) (y : Value) (hx : a.eval x = .slice (some ⟨g, 0, none⟩) 1 c) (hg : w.heap[g]? = some (rowN y)) (h6 : Node6 y) (hlen : vs.length + 1 ≤ 1048576) (hB : B ≤ w.heap.size)
    (h : ∀ v' w', OwnN w' B v' (vs ++ [y]) → w.grownBy w' v.ownBlock → Next w v.ownBlock v'.ownBlock → wpList Try.prog ops Q rest (a.put o.dst v') w') : wpList Try.prog ops Q (o :: rest) a w := by
  obtain ⟨i0, hi, hz0, hz1, hz2⟩ := node_parts
  have hnews : ∀ j u, (cells6 y)[j]? = some u → w.cell? ((⟨g, 0, none⟩ : Addr).add j) = some u := by
    intro j u hj
    rw [add0, cell_of_row w g (0 + j) _ _ _ hg]
    simpa using hj
  obtain ⟨v', w', hr, h2, h3, h4⟩ := append_next (P := Try.prog) w B 25 o.type 27 i0 zeroNode 6 88 Try.underlying25 hi hz0 hz1 hz2 rfl (by decide) v vs.length _ hown.1 ⟨g, 0, none⟩ 1 c (cells6 y) (by rw [cells6_length h6]) hnews (cells6_one h6) (by unfold maxLen; omega) (by omega) hB
  refine wpList_plain hgd fun _ hK => Lib.wp_append_run w s x 25 25 ho v _ hs hx v' w' hr (hK _ _ (h v' w' ⟨?_, ?_⟩ h3 h4))
  · rw [List.length_append, List.flatMap_append]
    simpa using h2
  · intro x hx
    rcases List.mem_append.1 hx with hx | hx
    · exact hown.2 x hx
    · simp at hx; subst hx; exact h6
theorem wpList_appendS {ops : Array Oper} {rest : List Oper} {o : Oper} {a : Act} {w : World} {Q : Exit → Act → World → Prop} (hgd : o.guard = none) (s x : Operand)
    (ho : o.op = .call { callee := .builtin .append, args := #[s, x], argTypes := #[24, 24] }) (B : Nat) (v : Value) (ss : List ByteArray) (hs : a.eval s = v) (hown : OwnS w B v ss)
    (sv : Value) (l2 : List ByteArray) (hx : a.eval x = sv) (hsv : StrsAt w sv l2) (hlen : ss.length + l2.length ≤ 1099511627776) (hB : B ≤ w.heap.size)
    (h : ∀ v' w', OwnS w' B v' (ss ++ l2) → w.grownBy w' v.ownBlock → Next w v.ownBlock v'.ownBlock → wpList Try.prog ops Q rest (a.put o.dst v') w') : wpList Try.prog ops Q (o :: rest) a w := by
  obtain ⟨i0, hi, hz0, hz1, hz2⟩ := str_parts
  obtain ⟨sa, cap, rfl, _, _, hnil, hc⟩ := hsv
  cases sa with
  | none =>
    have h0 : l2 = [] := by
      cases l2 with
      | nil => rfl
      | cons y r => obtain ⟨_, b, off, e, _⟩ := hc 0 y rfl; cases e
    subst h0
    have := hnil rfl
    subst this
    refine wpList_append_own_none hgd s x 24 ho B 9 i0 1 Try.underlying24 hi v ss.length _ hs hown hx ?_
    exact h v w (by rw [List.append_nil]; exact hown) ⟨rfl, rfl, rfl, Nat.le_refl _, fun _ _ _ => rfl⟩ (Next.refl _ _)
  | some ad =>
    have hnews : ∀ j u, (l2.map Value.string)[j]? = some u → w.cell? (ad.add j) = some u := by
      intro j u hj
      rw [List.getElem?_map] at hj
      cases hq : l2[j]? with
      | none => rw [hq] at hj; cases hj
      | some s =>
        rw [hq] at hj
        obtain ⟨_, b, off, e, hcell⟩ := hc j s hq
        cases e
        simp at hj
        subst hj
        rw [add_off _ b off j rfl]
        exact hcell
    obtain ⟨v', w', hr, h2, h3, h4⟩ := append_next (P := Try.prog) w B 24 o.type 9 i0 (.string ⟨#[]⟩) 1 16 Try.underlying24 hi hz0 hz1 hz2 rfl (by decide) v ss.length _ hown ad l2.length cap (l2.map Value.string) (by simp) hnews (by intro u hu; obtain ⟨s, _, rfl⟩ := List.mem_map.1 hu; rfl) (by unfold maxLen; omega) (by omega) hB
    refine wpList_plain hgd fun _ hK => Lib.wp_append_run w s x 24 24 ho v _ hs hx v' w' hr (hK _ _ (h v' w' ?_ h3 h4))
    unfold OwnS
    rw [List.length_append, List.map_append]
    exact h2
/-- An append to a row made here leaves what was there. -/
theorem grew_row {w wr w' : World} {e : TypeId} {size : Nat} {v : Value} {n : Nat} {xs : List Value} (h : wr.ownsRow w.heap.size e size v n xs) (hg : Grew w wr) (hgr : wr.grownBy w' v.ownBlock) : Grew w w' := by
  have hgr2 : Moved (fun k => some k = v.ownBlock) wr w' := Moved.of_grown hgr
  refine ⟨hgr2.os.trans hg.os, hgr2.tape.trans hg.tape, hgr2.output.trans hg.output, Nat.le_trans hg.size hgr2.size, fun k hk => ?_⟩
  refine (hgr2.block k (Nat.lt_of_lt_of_le hk hg.size) fun e => ?_).trans (hg.block k hk)
  rcases h.2 with ⟨rfl, hn⟩ | ⟨g, cap, cur, rfl, hb, _, _⟩
  · cases e
  · have : k = g := by injection e
    omega
theorem strs_new (w : World) (s : ByteArray) (hs : lenok s.size) : StrsAt (w.alloc (.cells #[.string s] 9)) (.slice (some ⟨w.heap.size, 0, none⟩) 1 1) [s] := by
  have h := heap_alloc_new w (.cells #[.string s] 9)
  refine ⟨_, 1, rfl, by simp, by unfold lenok; omega, (fun h => by cases h), fun i y hy => ?_⟩
  have hi : i = 0 := by have := (List.getElem?_eq_some_iff.1 hy).1; simp at this; omega
  subst hi
  simp at hy
  subst hy
  exact ⟨hs, _, _, rfl, row_cellT h 0 _ rfl⟩

/-! ### strings -/
/-- The first m bytes. -/
def shortS (s : ByteArray) (m : Nat) : ByteArray := s.extract 0 (min s.size m)
theorem shortS_size (s : ByteArray) (m : Nat) : (shortS s m).size = min s.size m := by simp [shortS]
theorem min_nat (a b : Nat) : min (a : Int) (b : Int) = ((min a b : Nat) : Int) := by omega
theorem short_any' (w : World) (s : ByteArray) (m : Nat) (hs : lenok s.size) (hm : m ≤ 1000) :
    Calls Try.prog 70 #[.string s, .int .i64 m] w fun r w' => r = .returned (.string (shortS s m)) ∧ w = w' := by
  unfold lenok at hs
  have h1 : min (s.size : Int) (m : Int) = ((min s.size m : Nat) : Int) := min_nat _ _
  obtain ⟨k, hk⟩ : ∃ k : Nat, min s.size m = k := ⟨_, rfl⟩
  rw [hk] at h1
  have hks : k ≤ s.size := by omega
  have hki : (k : Int) ≤ s.size := by omega
  have HK := Lib.hid hk
  clear hk
  go_enter Try.func70, Try.ntmps70
  go_wp2
  · go_ret
    exact ⟨by rw [shortS, HK.out, show m = k by have := HK.out; omega]; rfl, rfl⟩
  · go_ret
    exact ⟨by rw [shortS, HK.out, show k = s.size by have := HK.out; omega]; simp, rfl⟩
end Go.Proofs.Ytlhliolknaopjaa

/-
  Trees of one's own; shortening and copying lists of strings.
-/
namespace Go.Proofs.Ytlhliolknaopjaa
open Go Go.ChangeShapes Go.WideShapes Go.ChangeAt Go.RowKit Go.Joins Go.Deep
set_option linter.unusedVariables false
set_option linter.unusedSimpArgs false

mutual
/-- The tree's slices lie in rows of one's own, in blocks of S, no block twice. -/
def OwnT (w : World) (B : Nat) : Tr → Value → (Nat → Prop) → Prop
  | .mk k n u s keys l, v, S => (i64ok k ∧ i64ok n ∧ u64ok u ∧ lenok s.size ∧ ∀ x ∈ keys, lenok x.size) ∧ ∃ kv lv vs S', v = .agg #[.int .i64 k, .int .i64 n, .int .u64 u, .string s, kv, lv] ∧
      OwnS w B kv keys ∧ OwnN w B lv vs ∧
      (∀ g, kv.ownBlock = some g → S g ∧ ¬ S' g) ∧ (∀ g, lv.ownBlock = some g → S g ∧ ¬ S' g) ∧ (∀ g, kv.ownBlock = some g → lv.ownBlock ≠ some g) ∧ (∀ g, S' g → S g) ∧ KidsO w B l vs S'
def KidsO (w : World) (B : Nat) : List Tr → List Value → (Nat → Prop) → Prop
  | [], vs, _ => vs = []
  | t :: r, vs, S => ∃ v vr S1 S2, vs = v :: vr ∧ (∀ g, S1 g → S g) ∧ (∀ g, S2 g → S g) ∧ (∀ g, S1 g → ¬ S2 g) ∧ OwnT w B t v S1 ∧ KidsO w B r vr S2
end
mutual
theorem OwnT.kept {w w' : World} {B : Nat} {R : Nat → Prop} (hm : Moved R w w') : ∀ {t : Tr} {v : Value} {S : Nat → Prop}, OwnT w B t v S → (∀ g, S g → ¬ R g) → OwnT w' B t v S
  | .mk k n u s keys l, v, S, ⟨hb, kv, lv, vs, S', e, h1, h2, h3, h4, h5, h6, h7⟩, hd =>
    ⟨hb, kv, lv, vs, S', e, Moved.owns hm h1 (fun g hg => hd g (h3 g hg).1), ⟨Moved.owns hm h2.1 (fun g hg => hd g (h4 g hg).1), h2.2⟩, h3, h4, h5, h6, KidsO.kept hm h7 (fun g hg => hd g (h6 g hg))⟩
theorem KidsO.kept {w w' : World} {B : Nat} {R : Nat → Prop} (hm : Moved R w w') : ∀ {l : List Tr} {vs : List Value} {S : Nat → Prop}, KidsO w B l vs S → (∀ g, S g → ¬ R g) → KidsO w' B l vs S
  | [], _, _, h, _ => h
  | t :: r, _, S, ⟨v, vr, S1, S2, e, h1, h2, h3, h4, h5⟩, hd => ⟨v, vr, S1, S2, e, h1, h2, h3, OwnT.kept hm h4 (fun g hg => hd g (h1 g hg)), KidsO.kept hm h5 (fun g hg => hd g (h2 g hg))⟩
end
section
variable {w w' : World} {B : Nat} {v : Value} {vs : List Value} {t : Tr} {l : List Tr} {S T : Nat → Prop}
theorem OwnT.grew (h : OwnT w B t v S) (hg : Grew w w') : OwnT w' B t v S := h.kept (Moved.of_grew (S := fun _ => False) hg) (fun _ _ h => h)
theorem KidsO.grew (h : KidsO w B l vs S) (hg : Grew w w') : KidsO w' B l vs S := h.kept (Moved.of_grew (S := fun _ => False) hg) (fun _ _ h => h)
theorem OwnT.mono (h : OwnT w B t v S) (hS : ∀ g, S g → T g) : OwnT w B t v T := by
  cases t
  simp only [OwnT] at h ⊢
  obtain ⟨hb, kv, lv, vs, S', e, h1, h2, h3, h4, h5, h6, h7⟩ := h
  exact ⟨hb, kv, lv, vs, S', e, h1, h2, fun g hg => ⟨hS g (h3 g hg).1, (h3 g hg).2⟩, fun g hg => ⟨hS g (h4 g hg).1, (h4 g hg).2⟩, h5, fun g hg => hS g (h6 g hg), h7⟩
theorem KidsO.mono (h : KidsO w B l vs S) (hS : ∀ g, S g → T g) : KidsO w B l vs T := by
  cases l with
  | nil => exact h
  | cons t r =>
    simp only [KidsO] at h ⊢
    obtain ⟨v, vr, S1, S2, e, h1, h2, h3, h4, h5⟩ := h
    exact ⟨v, vr, S1, S2, e, fun g hg => hS g (h1 g hg), fun g hg => hS g (h2 g hg), h3, h4, h5⟩
theorem OwnT.node6 (h : OwnT w B t v S) : Node6 v := by
  cases t
  simp only [OwnT] at h
  obtain ⟨_, kv, lv, vs, S', rfl, h1, h2, _⟩ := h
  obtain ⟨a4, c4, rfl, _⟩ := rows_form h1
  obtain ⟨a5, c5, rfl, _⟩ := rows_form h2.1
  exact ⟨_, _, _, _, _, _, _, _, _, _, rfl⟩
mutual
theorem OwnT.node {w : World} {B : Nat} : ∀ {t : Tr} {v : Value} {S : Nat → Prop}, OwnT w B t v S → NodeAt w t v
  | .mk k n u s keys l, v, S, ⟨hb, kv, lv, vs, S', e, h1, h2, _, _, _, _, h7⟩ => ⟨⟨hb.1, hb.2.1, hb.2.2.1, hb.2.2.2.1⟩, kv, lv, vs, e, h1.strs hb.2.2.2.2, h2.rows, KidsO.kids h7⟩
theorem KidsO.kids {w : World} {B : Nat} : ∀ {l : List Tr} {vs : List Value} {S : Nat → Prop}, KidsO w B l vs S → KidsAt w l vs
  | [], _, _, h => h
  | t :: r, _, S, ⟨v, vr, S1, S2, e, _, _, _, h4, h5⟩ => ⟨v, vr, e, OwnT.node h4, KidsO.kids h5⟩
end
theorem KidsO.length (h : KidsO w B l vs S) : vs.length = l.length := h.kids.length
theorem KidsO.app {l2 : List Tr} {vs2 : List Value} (h : KidsO w B l vs S) (h2 : KidsO w B l2 vs2 T) (hd : ∀ g, S g → ¬ T g) : KidsO w B (l ++ l2) (vs ++ vs2) (fun g => S g ∨ T g) := by
  induction l generalizing vs S with
  | nil => simp only [KidsO] at h; subst h; exact h2.mono (fun g => .inr)
  | cons t r ih =>
    simp only [KidsO] at h
    obtain ⟨v, vr, S1, S2, rfl, h1, h2', h3, h4, h5⟩ := h
    simp only [List.cons_append, KidsO]
    exact ⟨v, vr ++ vs2, S1, fun g => S2 g ∨ T g, rfl, fun g hg => .inl (h1 g hg), fun g hg => hg.imp (h2' g) id, fun g hg hh => hh.elim (h3 g hg) (hd g (h1 g hg)), h4, ih h5 (fun g hg => hd g (h2' g hg))⟩
theorem KidsO.one (h : OwnT w B t v S) : KidsO w B [t] [v] S := by
  simp only [KidsO]
  exact ⟨v, [], S, fun _ => False, rfl, fun _ h => h, fun _ h => h.elim, fun _ _ h => h, h, rfl⟩
theorem KidsO.split {l2 : List Tr} (h : KidsO w B (l ++ l2) vs S) : ∃ vs1 vs2 S1 S2, vs = vs1 ++ vs2 ∧ vs1.length = l.length ∧ (∀ g, S1 g → S g) ∧ (∀ g, S2 g → S g) ∧ (∀ g, S1 g → ¬ S2 g) ∧ KidsO w B l vs1 S1 ∧ KidsO w B l2 vs2 S2 := by
  induction l generalizing vs S with
  | nil => exact ⟨[], vs, fun _ => False, S, rfl, rfl, fun _ h => h.elim, fun _ h => h, fun _ h => h.elim, rfl, h⟩
  | cons t r ih =>
    simp only [List.cons_append, KidsO] at h
    obtain ⟨v, vr, S1, S2, rfl, h1, h2, h3, h4, h5⟩ := h
    obtain ⟨vs1, vs2, T1, T2, rfl, hl, g1, g2, g3, g4, g5⟩ := ih h5
    refine ⟨v :: vs1, vs2, fun g => S1 g ∨ T1 g, T2, rfl, by simp [hl], fun g hg => hg.elim (h1 g) (fun hg => h2 g (g1 g hg)), fun g hg => h2 g (g2 g hg), fun g hg => hg.elim (fun hg hh => h3 g hg (g2 g hh)) (g3 g), ?_, g5⟩
    simp only [KidsO]
    exact ⟨v, vs1, S1, T1, rfl, fun g hg => .inl hg, fun g hg => .inr hg, fun g hg hh => h3 g hg (g1 g hh), h4, g4⟩
end
/-- The blocks made from w to w'. -/
def Fresh (w w' : World) (g : Nat) : Prop := w.heap.size ≤ g ∧ g < w'.heap.size
mutual
theorem OwnT.base {w : World} {B B' : Nat} (hb : B' ≤ B) : ∀ {t : Tr} {v : Value} {S : Nat → Prop}, OwnT w B t v S → OwnT w B' t v S
  | .mk k n u s keys l, v, S, ⟨hb0, kv, lv, vs, S', e, h1, h2, h3, h4, h5, h6, h7⟩ => ⟨hb0, kv, lv, vs, S', e, rows_base h1 hb, ⟨rows_base h2.1 hb, h2.2⟩, h3, h4, h5, h6, KidsO.base hb h7⟩
theorem KidsO.base {w : World} {B B' : Nat} (hb : B' ≤ B) : ∀ {l : List Tr} {vs : List Value} {S : Nat → Prop}, KidsO w B l vs S → KidsO w B' l vs S
  | [], _, _, h => h
  | t :: r, _, S, ⟨v, vr, S1, S2, e, h1, h2, h3, h4, h5⟩ => ⟨v, vr, S1, S2, e, h1, h2, h3, OwnT.base hb h4, KidsO.base hb h5⟩
end

/-! ### lists of strings -/
def textsS (l : List ByteArray) (many long : Nat) : List ByteArray := (l.take many).map (shortS · long)
theorem textsS_snoc {l : List ByteArray} {k : Nat} {s : ByteArray} (h : l[k]? = some s) {many : Nat} (hk : k < many) (long : Nat) : textsS (l.take k) many long ++ [shortS s long] = textsS (l.take (k + 1)) many long := by
  obtain ⟨hl, hs⟩ := List.getElem?_eq_some_iff.1 h
  unfold textsS
  rw [List.take_take, List.take_take, Nat.min_eq_right (by omega : k ≤ many), Nat.min_eq_right (by omega : k + 1 ≤ many), List.take_succ_eq_append_getElem hl, List.map_append, hs]
  rfl
theorem textsS_all (l : List ByteArray) (many long : Nat) : textsS (l.take many) many long = textsS l many long := by simp [textsS, List.take_take]
theorem textsS_length (l : List ByteArray) (many long : Nat) : (textsS l many long).length = min many l.length := by simp [textsS]
set_option maxRecDepth 100000 in
set_option maxHeartbeats 1000000 in
theorem texts_any (many long : Nat) (v : Value) (l : List ByteArray) (w : World) (h : StrsAt w v l) (hm : many ≤ 1000) (hlg : long ≤ 1000) :
    Calls Try.prog 71 #[v, .int .i64 many, .int .i64 long] w fun r w' => ∃ v', r = .returned v' ∧ OwnS w' w.heap.size v' (textsS l many long) ∧ Grew w w' := by
  obtain ⟨ad, c, rfl, hlc, hcm, _, hcell⟩ := h
  have HC := Lib.hid hcell
  have hl : l.length ≤ 9223372036854775807 := by unfold lenok at hcm; omega
  clear hcell hcm
  go_enter Try.func71, Try.ntmps71
  go_wp2_with fail
  go_loopw [7, 8] (fun v i wr => ∃ k : Nat, k ≤ l.length ∧ k ≤ many ∧ i = .int .i64 k ∧ Hid (OwnS wr w.heap.size v (textsS (l.take k) many long) ∧ Grew w wr)) (fun _ i _ => l.length - (intOf i).toNat)
  case atStart => exact ⟨0, Nat.zero_le _, by omega, rfl, by
    show _ ∧ _
    exact ⟨by simpa [textsS] using OwnS.nil _ _, Grew.refl _⟩⟩
  case round =>
    obtain ⟨k, hk, hk2, rfl, HW⟩ := hrel
    by_cases hlt : k < l.length
    · by_cases h3 : k < many
      · obtain ⟨x, hx⟩ : ∃ x, l[k]? = some x := ⟨_, List.getElem?_eq_getElem hlt⟩
        have HSN := Lib.hid (textsS_snoc hx h3 long)
        obtain ⟨hz, b, off, rfl, c0⟩ := HC.out k x hx
        have HZ := Lib.hid hz
        clear hx hz
        have d0 := HW.out.2.cell c0
        clear c0
        have h3i : (k : Int) < many := by omega
        go_wp2_with fail
        refine (short_any' wr x long HZ.out hlg).mono ?_
        rintro r w2 ⟨rfl, rfl⟩
        have HO := Lib.hid HW.out.1
        have HG := Lib.hid HW.out.2
        obtain ⟨va, vc, rfl, _, _, _⟩ := rows_form HO.out
        have HLN : Hid ((textsS (l.take k) many long).length ≤ 1000) := by show _ ≤ _; rw [textsS_length]; omega
        have hzs : Hid (lenok (shortS x long).size) := by show lenok _; have := HZ.out; unfold lenok at *; rw [shortS_size]; omega
        generalize textsS (l.take k) many long = L at *
        generalize shortS x long = X at *
        clear HW
        have HO2 : Hid (∀ o, OwnS (wr.alloc o) w.heap.size (.slice va L.length vc) L) := fun o => HO.out.grew ((Grew.refl _).alloc o)
        go_wp2_with (at_builtin; refine wpList_appendS rfl _ _ rfl w.heap.size (.slice va L.length vc) L rfl (HO2.out _) _ [X] rfl (strs_new _ _ hzs.out) (by have := HLN.out; simp; omega) (Nat.le_trans HG.out.size (by simp)) ?_; intro v' w3 hown hgr hqq; obtain ⟨va2, vc2, rfl, _, _, _⟩ := rows_form hown; have HG3 := Lib.hid (And.intro hown (grew_row (HO2.out _) (HG.out.alloc _) hgr)); clear hown hgr hqq)
        go_roundw
        case rel =>
          refine ⟨k + 1, by omega, by omega, by go_num, ?_⟩
          show _ ∧ _
          rw [← HSN.out]
          have hh := HG3.out
          rw [List.length_append] at hh
          exact hh
        case measure => simp [intOf]; omega
      · have ek : k = many := by omega
        subst ek
        have hw := HW.out
        have HE : Hid (OwnS wr w.heap.size u7 (textsS l k long) ∧ Grew w wr) := by
          show _ ∧ _
          rw [textsS_all] at hw
          exact hw
        clear hw HW
        go_wp2
        go_ret
        exact ⟨_, rfl, HE.out⟩
    · have ek : k = l.length := by omega
      subst ek
      have hw := HW.out
      have HE : Hid (OwnS wr w.heap.size u7 (textsS l many long) ∧ Grew w wr) := by
        show _ ∧ _
        rw [List.take_length] at hw
        exact hw
      clear hw HW
      go_wp2
      all_goals
        go_ret
        exact ⟨_, rfl, HE.out⟩
end Go.Proofs.Ytlhliolknaopjaa

/-
  Trees: shortening a tree, plain; children collected into a row of one's own.
-/
namespace Go.Proofs.Ytlhliolknaopjaa
open Go Go.ChangeShapes Go.WideShapes Go.ChangeAt Go.RowKit Go.Joins Go.Deep
set_option linter.unusedVariables false
set_option linter.unusedSimpArgs false

mutual
def cutTr (long : Nat) : Nat → Tr → Tr × Nat
  | left, .mk k n u s keys l => (.mk k n u (shortS s long) (textsS keys 64 long) (cutTrs long left l).1, (cutTrs long left l).2)
def cutTrs (long : Nat) : Nat → List Tr → List Tr × Nat
  | left, [] => ([], left)
  | left, t :: r => if left = 0 then ([], 0) else ((cutTr long (left - 1) t).1 :: (cutTrs long (cutTr long (left - 1) t).2 r).1, (cutTrs long (cutTr long (left - 1) t).2 r).2)
end
theorem cutTrs_snoc (long : Nat) (l : List Tr) (t : Tr) : ∀ left, cutTrs long left (l ++ [t]) =
    if (cutTrs long left l).2 = 0 then cutTrs long left l else ((cutTrs long left l).1 ++ [(cutTr long ((cutTrs long left l).2 - 1) t).1], (cutTr long ((cutTrs long left l).2 - 1) t).2) := by
  induction l with
  | nil => intro left; by_cases h : left = 0 <;> simp [cutTrs, h]
  | cons x r ih =>
    intro left
    rw [List.cons_append, cutTrs, cutTrs]
    by_cases h : left = 0
    · simp [h]
    · rw [if_neg h, if_neg h, ih]
      by_cases h2 : (cutTrs long (cutTr long (left - 1) x).2 r).2 = 0
      · rw [if_pos h2, if_pos h2]
      · rw [if_neg h2, if_neg h2]
        simp
theorem cutTrs_stop (long : Nat) (l r : List Tr) (left : Nat) (h : (cutTrs long left l).2 = 0) : cutTrs long left (l ++ r) = cutTrs long left l := by
  induction r generalizing l with
  | nil => simp
  | cons x r ih =>
    have e : l ++ x :: r = (l ++ [x]) ++ r := by simp
    have h2 : cutTrs long left (l ++ [x]) = cutTrs long left l := by rw [cutTrs_snoc, if_pos h]
    rw [e, ih (l ++ [x]) (by rw [h2]; exact h), h2]
mutual
theorem cutTr_size (long : Nat) : ∀ (t : Tr) (left : Nat), (cutTr long left t).1.size + (cutTr long left t).2 ≤ left + 1
  | .mk k n u s keys l, left => by
    have := cutTrs_size long l left
    simp only [cutTr, Tr.size]
    omega
theorem cutTrs_size (long : Nat) : ∀ (l : List Tr) (left : Nat), sizeL (cutTrs long left l).1 + (cutTrs long left l).2 ≤ left
  | [], left => by simp [cutTrs, sizeL]
  | t :: r, left => by
    rw [cutTrs]
    by_cases h : left = 0
    · simp [h, sizeL]
    · rw [if_neg h]
      have h1 := cutTr_size long t (left - 1)
      have h2 := cutTrs_size long r (cutTr long (left - 1) t).2
      simp only [sizeL]
      omega
end

/-- Children collected since W: the row and the trees in it, in new blocks. -/
def Grow (R : Nat → Prop) (W w : World) (v : Value) (ts : List Tr) : Prop :=
  ∃ vs S, OwnN w W.heap.size v vs ∧ KidsO w W.heap.size ts vs S ∧ (∀ g, S g → W.heap.size ≤ g ∧ g < w.heap.size ∧ v.ownBlock ≠ some g) ∧ Moved R W w
theorem Grow.start (R : Nat → Prop) (W : World) : Grow R W W (.slice none 0 0) [] :=
  ⟨[], fun _ => False, OwnN.nil _ _, rfl, fun _ h => h.elim, Moved.refl _ _⟩
theorem Grow.form {R : Nat → Prop} {W w : World} {v : Value} {ts : List Tr} (h : Grow R W w v ts) : ∃ a c, v = .slice a ts.length c ∧ ts.length ≤ c ∧ lenok c ∧ (a = none → c = 0) := by
  obtain ⟨vs, S, h1, h2, _⟩ := h
  have := rows_form h1.1
  rwa [h2.length] at this
theorem Grow.step {R : Nat → Prop} {W wr w2 w3 : World} {v v' xv : Value} {ts : List Tr} {x : Tr} (hR : ∀ g, R g → g < W.heap.size) (vs : List Value) (S : Nat → Prop) (h2 : KidsO wr W.heap.size ts vs S) (h1 : OwnN wr W.heap.size v vs)
    (h3 : ∀ g, S g → W.heap.size ≤ g ∧ g < wr.heap.size ∧ v.ownBlock ≠ some g) (h4 : Moved R W wr)
    (hx : OwnT w2 wr.heap.size x xv (Fresh wr w2)) (hm : Moved R wr w2) (o : Obj) (hown : OwnN w3 W.heap.size v' (vs ++ [xv])) (hgr : (w2.alloc o).grownBy w3 v.ownBlock) (hn : Next (w2.alloc o) v.ownBlock v'.ownBlock) : Grow R W w3 v' (ts ++ [x]) := by
  have hm3 : Moved (fun k => some k = v.ownBlock) (w2.alloc o) w3 := Moved.of_grown hgr
  have hga : Grew w2 (w2.alloc o) := (Grew.refl w2).alloc o
  have hlt : ∀ g, v.ownBlock = some g → W.heap.size ≤ g ∧ g < wr.heap.size := fun g hg => World.ownsRow.lt h1.1 g hg
  have hs2 : wr.heap.size ≤ w2.heap.size := hm.size
  have hs3 : w2.heap.size ≤ (w2.alloc o).heap.size := hga.size
  have hs4 : (w2.alloc o).heap.size ≤ w3.heap.size := hm3.size
  have hWr : W.heap.size ≤ wr.heap.size := h4.size
  have k1 : KidsO w3 W.heap.size ts vs S := ((h2.kept hm (fun g hg hr => by have := (h3 g hg).1; have := hR g hr; omega)).grew hga).kept hm3 (fun g hg e => (h3 g hg).2.2 e.symm)
  have k2 : OwnT w3 W.heap.size x xv (Fresh wr w2) := ((hx.grew hga).kept hm3 (fun g hg e => by have := hlt g e.symm; have := hg.1; omega)).base hWr
  refine ⟨vs ++ [xv], fun g => S g ∨ Fresh wr w2 g, hown, k1.app (KidsO.one k2) (fun g hg hh => by have := (h3 g hg).2.1; have := hh.1; omega), fun g hg => ?_, ?_⟩
  · have hb : W.heap.size ≤ g ∧ g < w2.heap.size := by
      rcases hg with hg | hg
      · have := h3 g hg; omega
      · exact ⟨Nat.le_trans hWr hg.1, hg.2⟩
    refine ⟨hb.1, by omega, fun e => ?_⟩
    rcases hn g e with e | e
    · rcases hg with hg | hg
      · exact (h3 g hg).2.2 e
      · have := hlt g e; have := hg.1; omega
    · omega
  · exact ((h4.trans' hm).grew hga).trans hm3 fun j hj e => by have := hlt j e.symm; omega
/-- A tree out of what was collected. -/
theorem Grow.tree {R : Nat → Prop} {w0 W w : World} {v kv : Value} {ts : List Tr} {k n u : Int} {s : ByteArray} {keys : List ByteArray} (h : Grow R W w v ts) (hb : i64ok k ∧ i64ok n ∧ u64ok u ∧ lenok s.size ∧ ∀ x ∈ keys, lenok x.size)
    (h0 : w0.heap.size ≤ W.heap.size) (hk : OwnS w w0.heap.size kv keys) (hkW : ∀ g, kv.ownBlock = some g → g < W.heap.size) :
    OwnT w w0.heap.size (.mk k n u s keys ts) (.agg #[.int .i64 k, .int .i64 n, .int .u64 u, .string s, kv, v]) (Fresh w0 w) := by
  obtain ⟨vs, S, h1, h2, h3, h4⟩ := h
  simp only [OwnT]
  refine ⟨hb, kv, v, vs, S, rfl, hk, ⟨rows_base h1.1 h0, h1.2⟩, fun g hg => ⟨?_, fun hs => ?_⟩, fun g hg => ⟨?_, fun hs => (h3 g hs).2.2 hg⟩, fun g hg hg2 => ?_, fun g hg => ?_, h2.base h0⟩
  · have := World.ownsRow.lt hk g hg; exact ⟨this.1, this.2⟩
  · have := (h3 g hs).1; have := hkW g hg; omega
  · have := World.ownsRow.lt h1.1 g hg; exact ⟨by omega, this.2⟩
  · have := World.ownsRow.lt h1.1 g hg2; have := hkW g hg; omega
  · have := h3 g hg; exact ⟨by omega, this.2.1⟩
theorem Grow.kept {R T : Nat → Prop} {W w w' : World} {v : Value} {ts : List Tr} (h : Grow R W w v ts) (hm : Moved T w w') (hT : ∀ g, T g → g < W.heap.size) (hRT : ∀ g, T g → R g) : Grow R W w' v ts := by
  obtain ⟨vs, S, h1, h2, h3, h4⟩ := h
  refine ⟨vs, S, ⟨Moved.owns hm h1.1 (fun g hg ht => by have := World.ownsRow.lt h1.1 g hg; have := hT g ht; omega), h1.2⟩, h2.kept hm (fun g hg ht => by have := (h3 g hg).1; have := hT g ht; omega), fun g hg => ?_, h4.trans hm (fun g _ ht => hRT g ht)⟩
  have := h3 g hg
  have := hm.size
  exact ⟨by omega, by omega, (h3 g hg).2.2⟩
theorem Grow.wider {R T : Nat → Prop} {W w : World} {v : Value} {ts : List Tr} (h : Grow R W w v ts) (hRT : ∀ g, R g → T g) : Grow T W w v ts := by
  obtain ⟨vs, S, h1, h2, h3, h4⟩ := h
  exact ⟨vs, S, h1, h2, h3, h4.mono (fun g _ hg => hRT g hg)⟩
end Go.Proofs.Ytlhliolknaopjaa

/-
  Trees: the reference's copy. Conditions: the node lies in memory; rows of at most 4096.
-/
namespace Go.Proofs.Ytlhliolknaopjaa
open Go Go.ChangeShapes Go.WideShapes Go.ChangeAt Go.RowKit Go.Joins Go.Deep
set_option linter.unusedVariables false
set_option linter.unusedSimpArgs false

theorem heap_store6 {w : World} {g : Nat} {a b c d e f : Value} {t : TypeId} (h : w.heap[g]? = some (.cells #[a, b, c, d, e, f] t (0, 0))) (a' b' c' d' e' f' : Value) :
    ((((((w.setCell ⟨g, 0, none⟩ a').setCell ⟨g, 1, none⟩ b').setCell ⟨g, 2, none⟩ c').setCell ⟨g, 3, none⟩ d').setCell ⟨g, 4, none⟩ e').setCell ⟨g, 5, none⟩ f').heap[g]? = some (.cells #[a', b', c', d', e', f'] t (0, 0)) := by
  have h1 := heap_setCell_same w g 0 _ _ a' h
  have h2 := heap_setCell_same _ g 1 _ _ b' h1
  have h3 := heap_setCell_same _ g 2 _ _ c' h2
  have h4 := heap_setCell_same _ g 3 _ _ d' h3
  have h5 := heap_setCell_same _ g 4 _ _ e' h4
  have h6 := heap_setCell_same _ g 5 _ _ f' h5
  simpa using h6
theorem moved_store6 (w : World) (g : Nat) (a' b' c' d' e' f' : Value) :
    Moved (fun k => k = g) w ((((((w.setCell ⟨g, 0, none⟩ a').setCell ⟨g, 1, none⟩ b').setCell ⟨g, 2, none⟩ c').setCell ⟨g, 3, none⟩ d').setCell ⟨g, 4, none⟩ e').setCell ⟨g, 5, none⟩ f') :=
  Moved.setCell (S := fun k => k = g) (p := ⟨g, 5, none⟩) (Moved.setCell (S := fun k => k = g) (p := ⟨g, 4, none⟩) (Moved.setCell (S := fun k => k = g) (p := ⟨g, 3, none⟩) (Moved.setCell (S := fun k => k = g) (p := ⟨g, 2, none⟩) (Moved.setCell (S := fun k => k = g) (p := ⟨g, 1, none⟩) (Moved.setCell (S := fun k => k = g) (p := ⟨g, 0, none⟩) (Moved.refl _ w) (fun _ => rfl) _) (fun _ => rfl) _) (fun _ => rfl) _) (fun _ => rfl) _) (fun _ => rfl) _) (fun _ => rfl) _
/-- Six stores, the cells of one node. -/
abbrev store6 (w : World) (g : Nat) (a' b' c' d' e' f' : Value) : World := ((((((w.setCell ⟨g, 0, none⟩ a').setCell ⟨g, 1, none⟩ b').setCell ⟨g, 2, none⟩ c').setCell ⟨g, 3, none⟩ d').setCell ⟨g, 4, none⟩ e').setCell ⟨g, 5, none⟩ f')
theorem moved_close (w : World) (g r : Nat) (a b c d e f : Value) (x : Value) : Moved (fun k => k = g ∨ k = r) w (store6 (w.setCell ⟨g, 5, none⟩ x) r a b c d e f) :=
  (Moved.setCell (S := fun k => k = g ∨ k = r) (p := ⟨g, 5, none⟩) (Moved.refl _ w) (fun _ => .inl rfl) x).trans (moved_store6 _ r a b c d e f) (fun _ _ h => .inr h)
/-- Writes to new blocks alone. -/
theorem Moved.fresh {S : Nat → Prop} {w0 w w' : World} (hg : Grew w0 w) (h : Moved S w w') (hS : ∀ g, S g → w0.heap.size ≤ g) : Grew w0 w' :=
  Below.trans hg (h.below hg.size hS)
theorem NodeAt.node6 {w : World} {t : Tr} {v : Value} (h : NodeAt w t v) : Node6 v := by
  cases t
  simp only [NodeAt] at h
  obtain ⟨_, kv, lv, vs, rfl, ⟨a4, c4, rfl, _⟩, ⟨a5, c5, rfl, _⟩, _⟩ := h
  exact ⟨_, _, _, _, _, _, _, _, _, _, rfl⟩
theorem Cells6.get {w : World} {b o : Nat} {x0 x1 x2 x3 x4 x5 : Value} (h : Cells6 w b o (.agg #[x0, x1, x2, x3, x4, x5])) :
    w.cell? ⟨b, o, none⟩ = some x0 ∧ w.cell? ⟨b, o + 1, none⟩ = some x1 ∧ w.cell? ⟨b, o + 2, none⟩ = some x2 ∧ w.cell? ⟨b, o + 3, none⟩ = some x3 ∧ w.cell? ⟨b, o + 4, none⟩ = some x4 ∧ w.cell? ⟨b, o + 5, none⟩ = some x5 := by
  obtain ⟨c0, c1, c2, c3, c4, c5, e, h⟩ := h
  injection e with e
  injection e with e
  simp at e
  obtain ⟨rfl, rfl, rfl, rfl, rfl, rfl⟩ := e
  exact h
/-- Two rows of different types are two blocks. -/
theorem not_block {w : World} {B : Nat} {e t : TypeId} {size n : Nat} {v : Value} {xs : List Value} (h : w.ownsRow B e size v n xs) {g : Nat} {cs : Array Value} (hg : w.heap[g]? = some (.cells cs t (0, 0))) (he : e ≠ t) : v.ownBlock ≠ some g := by
  intro hv
  rcases h.2 with ⟨rfl, _⟩ | ⟨g2, cap, cur, rfl, _, h2, _⟩
  · cases hv
  · have : g2 = g := by injection hv
    subst this
    rw [hg] at h2
    injection h2 with h2
    injection h2 with _ h2
    exact he h2.symm
end Go.Proofs.Ytlhliolknaopjaa
