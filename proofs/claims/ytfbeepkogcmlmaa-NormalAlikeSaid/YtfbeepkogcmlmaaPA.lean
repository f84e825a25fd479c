/-
  Texts of the proof, part 1 of 8.
-/
import Derived.Orders
import Derived.Below
import Derived.KernelRfl
import Derived.WalkKit
import Derived.WalkSpells
import Derived.WalkLawsBesides
import Derived.Test.YtfbeepkogcmlmaaRows
import Derived.ProofKit
import Derived.OpenShut
import Derived.ShutString
import Derived.ChangeOld
import Derived.Lib.SmallJoins
import Derived.Lib.UnsafeStr
import Derived.Lib.Hide
import Derived.Handy
import Derived.Laws.OwnMore
import Derived.Deep.QuietTactic
import Derived.BigQuiet
import Derived.Deep.Slices
import Derived.Deep.Strs
import Derived.Deep.Fields
import Derived.ChangeSame
import Derived.Laws.AppendOwnNone
import Derived.Lib.AppendZeros

/-
  Plain lemma, no program: a region that leaves its order open is carried out in some order; if each operation, whenever what it waits for has been done, yields a value with its own fact, and facts abide whatever the region does, then behind the region all facts hold. Conditions: the dependency table passes a closed check.
-/
namespace Go.Proofs.Ytfbeepkogcmlmaa
set_option linter.unusedSimpArgs false
set_option linter.unusedVariables false
open Go Go.RowKit

/-! ### growth of the world -/

/-- All that was there lies as it lay. -/
def Grew (w w' : World) : Prop := Below w.heap.size w w'
theorem Grew.refl (w : World) : Grew w w := Below.refl _ _
theorem Grew.trans {a b c : World} (h : Grew a b) (k : Grew b c) : Grew a c := Below.trans h (Below.mono k (Below.size h))
theorem Grew.below {a b : World} (h : Grew a b) : Below a.heap.size a b := h
theorem Grew.size {a b : World} (h : Grew a b) : a.heap.size ≤ b.heap.size := Below.size h
theorem Grew.drew {a w : World} (h : Grew a w) : Grew a w.drew := Below.drew h
theorem Grew.alloc {a w : World} (h : Grew a w) (o : Obj) : Grew a (w.alloc o) := Below.alloc h (Below.size h) o
theorem Grew.setCell {a w : World} (h : Grew a w) {p : Addr} (hp : a.heap.size ≤ p.block) (u : Value) : Grew a (w.setCell p u) := Below.setCell h hp u
theorem Grew.heap {w w' : World} (h : Grew w w') {k : Nat} {o : Obj} (hk : w.heap[k]? = some o) : w'.heap[k]? = some o :=
  (Below.block h k (Array.getElem?_eq_some_iff.1 hk).1).trans hk
theorem lt_of_cell {w : World} {p : Addr} {v : Value} (hc : w.cell? p = some v) : p.block < w.heap.size := by
  rcases Nat.lt_or_ge p.block w.heap.size with h | h
  · exact h
  · simp [World.cell?, Array.getElem?_eq_none h] at hc
theorem Grew.cell {w w' : World} (h : Grew w w') {p : Addr} {v : Value} (hc : w.cell? p = some v) : w'.cell? p = some v :=
  (Below.cell h (lt_of_cell hc)).trans hc
theorem Grew.frozen {w w' : World} (h : Grew w w') {p : Addr} {b : Bool} (hp : p.block < w.heap.size) (hc : w.frozen? p = b) : w'.frozen? p = b :=
  (Below.frozen h hp).trans hc

section
variable {P : Program} {ops : Array Oper}

def fillL (y : Nat → Value) : List (Nat × Nat) → Act → Act
  | [], a => a
  | (d, j) :: r, a => fillL y r (a.put (some d) (y j))

theorem put_put (a : Act) (d : Nat) (u v : Value) : (a.put (some d) u).put (some d) v = a.put (some d) v := by
  simp [Act.put]

theorem fillL_put (y : Nat → Value) (d : Nat) (u : Value) : ∀ (r : List (Nat × Nat)) (a : Act), (∀ p ∈ r, p.1 ≠ d) → fillL y r (a.put (some d) u) = (fillL y r a).put (some d) u
  | [], _, _ => rfl
  | (e, j) :: r, a, h => by
    have hne : e ≠ d := h (e, j) (by simp)
    have hc : (a.put (some d) u).put (some e) (y j) = (a.put (some e) (y j)).put (some d) u := Act.put_comm a u (y j) (fun x hx hy => by cases hx; cases hy; exact hne rfl)
    show fillL y r ((a.put (some d) u).put (some e) (y j)) = _
    rw [hc]
    exact fillL_put y d u r _ (fun p hp => h p (by simp [hp]))

theorem fillL_congr (y z : Nat → Value) : ∀ (r : List (Nat × Nat)) (a : Act), (∀ p ∈ r, y p.2 = z p.2) → fillL y r a = fillL z r a
  | [], _, _ => rfl
  | (e, j) :: r, a, h => by
    show fillL y r (a.put (some e) (y j)) = fillL z r (a.put (some e) (z j))
    rw [h (e, j) (by simp)]
    exact fillL_congr y z r _ (fun p hp => h p (by simp [hp]))

/-- no slot twice, no operation twice -/
def keysOK : List (Nat × Nat) → Bool
  | [] => true
  | p :: r => r.all (fun q => q.1 != p.1 && q.2 != p.2) && keysOK r

theorem fillL_set (y : Nat → Value) (i : Nat) (v : Value) : ∀ (L : List (Nat × Nat)) (a : Act) (d : Nat), keysOK L = true → (d, i) ∈ L →
    fillL (fun k => if k = i then v else y k) L a = (fillL y L a).put (some d) v
  | (e, j) :: r, a, d, hk, hm => by
    simp only [keysOK, Bool.and_eq_true, List.all_eq_true, bne_iff_ne] at hk
    obtain ⟨hne, hk⟩ := hk
    show fillL _ r (a.put (some e) (if j = i then v else y j)) = (fillL y r (a.put (some e) (y j))).put (some d) v
    rcases List.mem_cons.1 hm with h | h
    · obtain ⟨rfl, rfl⟩ := Prod.mk.injEq .. ▸ h
      rw [if_pos rfl, fillL_congr _ y r _ (fun p hp => if_neg (hne p hp).2), fillL_put y d v r a (fun p hp => (hne p hp).1), fillL_put y d (y i) r a (fun p hp => (hne p hp).1), put_put]
    · have hij : j ≠ i := fun he => (hne _ h).2 he.symm
      rw [if_neg hij]
      exact fillL_set y i v r _ d hk h

theorem fillL_filter (y : Nat → Value) (p : Nat × Nat → Bool) : ∀ (L : List (Nat × Nat)) (a : Act), keysOK L = true → (∀ q ∈ L, p q = false → a.put (some q.1) (y q.2) = a) →
    fillL y (L.filter p) a = fillL y L a
  | [], _, _, _ => rfl
  | (e, j) :: r, a, hk, h => by
    simp only [keysOK, Bool.and_eq_true, List.all_eq_true, bne_iff_ne] at hk
    obtain ⟨hne, hk⟩ := hk
    have hr : ∀ q ∈ r, p q = false → (a.put (some e) (y j)).put (some q.1) (y q.2) = a.put (some e) (y j) := fun q hq hp => by
      rw [← Act.put_comm a (y q.2) (y j) (fun x hx hy => by cases hx; cases hy; exact (hne q hq).1 rfl), h q (by simp [hq]) hp]
    cases hp : p (e, j) with
    | true =>
      rw [List.filter_cons_of_pos hp]
      exact fillL_filter y p r _ hk hr
    | false =>
      rw [List.filter_cons_of_neg (by simp [hp])]
      have h0 := h (e, j) (by simp) hp
      show fillL y (r.filter p) a = fillL y r (a.put (some e) (y j))
      simp only at h0
      rw [h0] at hr ⊢
      exact fillL_filter y p r _ hk hr

/-- every slot that the region writes, with its operation's number -/
def pairsOf (ops : Array Oper) : List (Nat × Nat) := (List.range ops.size).filterMap fun j => ((ops[j]?).bind (·.dst)).map fun d => (d, j)

theorem mem_pairsOf {d j : Nat} : (d, j) ∈ pairsOf ops ↔ (ops[j]?).bind (·.dst) = some d := by
  unfold pairsOf
  rw [List.mem_filterMap]
  constructor
  · rintro ⟨k, _, hk⟩
    cases hd : (ops[k]?).bind (·.dst) with
    | none => simp [hd] at hk
    | some e => simp [hd] at hk; obtain ⟨rfl, rfl⟩ := hk; exact hd
  · intro h
    refine ⟨j, ?_, by simp [h]⟩
    rw [List.mem_range]
    rcases Nat.lt_or_ge j ops.size with h' | h'
    · exact h'
    · rw [Array.getElem?_eq_none h'] at h; cases h

/-- does operation j wait (by the table) for operation i? -/
def waits (D : Array (List Nat)) (i j : Nat) : Bool := (D.getD j []).contains i

/-- The slots of what may have been done when operation i comes up: all but i's own and those of what waits for i. -/
def canonL (ops : Array Oper) (D : Array (List Nat)) (i : Nat) : List (Nat × Nat) := (pairsOf ops).filter fun q => !(q.2 == i || waits D i q.2)

/-- The table is sound: what stands in a row is waited for at one or more steps; edges lead back in the text's order. -/
def factsOK (ops : Array Oper) (D : Array (List Nat)) : Bool :=
  keysOK (pairsOf ops) &&
  (List.range ops.size).all fun i =>
    match ops[i]? with
    | none => true
    | some o =>
      let es := (o.after.toList.filter (Region.binds .any)).map (·.on)
      es.all (fun e => e < i) && (D.getD i []).all fun k => es.any fun e => e == k || (D.getD e []).contains k

/-- One operation's word: whenever it comes up, with what it waits for done, it goes on with its fact. -/
def opWord (P : Program) (ops : Array Oper) (R : World → World → Prop) (D : Array (List Nat)) (Φ : Nat → Value → World → Prop) (a0 : Act) (w0 : World) (i : Nat) (o : Oper) : Prop :=
  ∀ (y : Nat → Value) (w : World), R w0 w → (∀ j ∈ D.getD i [], Φ j (y j) w) → ∀ K : Act → World → Prop,
    (∀ v w', R w w' → Φ i v w' → K ((fillL y (canonL ops D i) a0).put o.dst v) w') →
    if Region.wanted o (yielded ops (fillL y (canonL ops D i) a0).tmps) then o.wp P (fillL y (canonL ops D i) a0) w K (fun _ _ _ => False) else K ((fillL y (canonL ops D i) a0).put o.dst undef) w

def allWords (p : Nat → Oper → Prop) : Nat → List Oper → Prop
  | _, [] => True
  | i, o :: r => p i o ∧ allWords p (i + 1) r

theorem allWords_get {p : Nat → Oper → Prop} : ∀ (l : List Oper) (i k : Nat) (o : Oper), allWords p i l → l[k]? = some o → p (i + k) o := by
  intro l
  induction l with
  | nil => intro i k o _ hk; cases hk
  | cons o' r ih =>
    intro i k o h hk
    cases k with
    | zero =>
      rw [List.getElem?_cons_zero, Option.some.injEq] at hk
      rw [← hk]; exact h.1
    | succ k =>
      rw [List.getElem?_cons_succ] at hk
      have h2 := ih (i + 1) k o h.2 hk
      have e : i + (k + 1) = i + 1 + k := by omega
      rw [e]; exact h2

theorem filter_lt {p q : Nat → Bool} : ∀ (l : List Nat) (i : Nat), (∀ j, q j = true → p j = true) → i ∈ l → p i = true → q i = false → (l.filter q).length < (l.filter p).length
  | x :: l, i, h, hm, hp, hq => by
    have hle : ∀ l : List Nat, (l.filter q).length ≤ (l.filter p).length := fun l => by
      induction l with
      | nil => simp
      | cons y l ih =>
        cases hqy : q y with
        | true => rw [List.filter_cons_of_pos hqy, List.filter_cons_of_pos (h y hqy)]; simpa using ih
        | false =>
          rw [List.filter_cons_of_neg (by simp [hqy])]
          cases hpy : p y with
          | true => rw [List.filter_cons_of_pos hpy]; simp; omega
          | false => rw [List.filter_cons_of_neg (by simp [hpy])]; exact ih
    rcases List.mem_cons.1 hm with he | he
    · subst he
      rw [List.filter_cons_of_pos hp, List.filter_cons_of_neg (by simp [hq])]
      have := hle l
      simp; omega
    · have ih := filter_lt l i h he hp hq
      cases hqx : q x with
      | true => rw [List.filter_cons_of_pos hqx, List.filter_cons_of_pos (h x hqx)]; simpa using ih
      | false =>
        rw [List.filter_cons_of_neg (by simp [hqx])]
        cases hpx : p x with
        | true => rw [List.filter_cons_of_pos hpx]; simp; omega
        | false => rw [List.filter_cons_of_neg (by simp [hpx])]; exact ih

structure InvF (ops : Array Oper) (R : World → World → Prop) (D : Array (List Nat)) (Φ : Nat → Value → World → Prop) (a0 : Act) (w0 : World) (listed : Array Bool) (a : Act) (w : World) (y : Nat → Value) : Prop where
  size : listed.size = ops.size
  act : a = fillL y (pairsOf ops) a0
  grown : R w0 w
  facts : ∀ j, listed.getD j false = true → Φ j (y j) w
  open_ : ∀ j d, listed.getD j true = false → (ops[j]?).bind (·.dst) = some d → a0.put (some d) (y j) = a0
  closed : ∀ j, listed.getD j false = true → ∀ k ∈ D.getD j [], listed.getD k false = true

theorem put_self (a : Act) (d : Nat) : a.put (some d) (a.tmps.getD d undef) = a := by
  cases a with
  | mk t df =>
    simp only [Act.put]
    congr 1
    apply Array.ext
    · simp
    · intro i h1 h2
      rw [Array.getElem_setIfInBounds h2]
      split
      · rename_i he; subst he; simp [Array.getD, h2]
      · rfl

theorem listed_cases {listed : Array Bool} {j : Nat} (hj : j < listed.size) : listed.getD j true = listed.getD j false := by
  simp [Array.getD, hj]

theorem wpAny_of_facts {R : World → World → Prop} {D : Array (List Nat)} {Φ : Nat → Value → World → Prop} {a0 : Act} {w0 : World} {Q : Exit → Act → World → Prop}
    (hRt : ∀ {a b c : World}, R a b → R b c → R a c) (hchk : factsOK ops D = true) (hst : ∀ j v w w', R w w' → Φ j v w → Φ j v w') (hrr : ∀ w, R w w)
    (hop : ∀ i o, ops[i]? = some o → opWord P ops R D Φ a0 w0 i o)
    (hfin : ∀ y w, R w0 w → (∀ j, j < ops.size → Φ j (y j) w) → Q .normal (fillL y (pairsOf ops) a0) w) :
    ∀ (fuel : Nat) (listed : Array Bool) (a : Act) (w : World) (y : Nat → Value), ((List.range ops.size).filter fun j => !listed.getD j true).length ≤ fuel →
      InvF ops R D Φ a0 w0 listed a w y → wpAny P .any ops Q fuel listed a w := by
  simp only [factsOK, Bool.and_eq_true, List.all_eq_true, List.mem_range] at hchk
  obtain ⟨hkeys, hrows⟩ := hchk
  -- nothing ready: all has been listed
  have hall : ∀ (listed : Array Bool), listed.size = ops.size → Region.ready .any ops listed = [] → ∀ j, j < ops.size → listed.getD j false = true := by
    intro listed hs hnil j
    induction j using Nat.strongRecOn with
    | ind j ih =>
      intro hj
      cases hl : listed.getD j false with
      | true => rfl
      | false =>
        exfalso
        have hmem : j ∈ Region.ready .any ops listed := by
          rw [mem_ready]
          refine ⟨by rw [listed_cases (by omega)]; exact hl, ops[j], Array.getElem?_eq_getElem hj, fun e he hb => ?_⟩
          have hrow := hrows j hj
          rw [Array.getElem?_eq_getElem hj] at hrow
          simp only [Bool.and_eq_true, List.all_eq_true, decide_eq_true_eq] at hrow
          have hlt := hrow.1 e.on (List.mem_map.2 ⟨e, List.mem_filter.2 ⟨by simpa using he, hb⟩, rfl⟩)
          exact ih e.on hlt (by omega)
        rw [hnil] at hmem
        cases hmem
  have hdone : ∀ (listed : Array Bool) (a : Act) (w : World) (y : Nat → Value), InvF ops R D Φ a0 w0 listed a w y → Region.ready .any ops listed = [] → Q .normal a w := by
    intro listed a w y hI hnil
    rw [hI.act]
    exact hfin y w hI.grown (fun j hj => hI.facts j (hall listed hI.size hnil j hj))
  intro fuel
  induction fuel with
  | zero =>
    intro listed a w y hlen hI
    have hnil : Region.ready .any ops listed = [] := by
      have h0 : ((List.range ops.size).filter fun j => !listed.getD j true) = [] := List.length_eq_zero_iff.1 (by omega)
      refine List.eq_nil_iff_forall_not_mem.2 fun j hj => ?_
      have hj' := mem_ready.1 hj
      have : j ∈ ((List.range ops.size).filter fun j => !listed.getD j true) := by
        obtain ⟨hl, o, ho, _⟩ := hj'
        exact List.mem_filter.2 ⟨List.mem_range.2 (Array.getElem?_eq_some_iff.1 ho).1, by simp [hl]⟩
      rw [h0] at this
      cases this
    exact ⟨hnil, hdone listed a w y hI hnil⟩
  | succ fuel ih =>
    intro listed a w y hlen hI
    refine ⟨hdone listed a w y hI, fun i hi => ?_⟩
    obtain ⟨hun, o, ho, hedges⟩ := mem_ready.1 hi
    have hilt : i < ops.size := (Array.getElem?_eq_some_iff.1 ho).1
    have hunf : listed.getD i false = false := by rw [← listed_cases (by rw [hI.size]; exact hilt)]; exact hun
    have hrow := hrows i hilt
    rw [ho] at hrow
    simp only [Bool.and_eq_true, List.all_eq_true, decide_eq_true_eq, List.any_eq_true, Bool.or_eq_true, beq_iff_eq, List.contains_iff_mem] at hrow
    -- what i waits for has been listed
    have hD : ∀ k ∈ D.getD i [], listed.getD k false = true := by
      intro k hk
      obtain ⟨e, he, hek⟩ := hrow.2 k hk
      obtain ⟨ed, hed, rfl⟩ := List.mem_map.1 he
      obtain ⟨hed1, hed2⟩ := List.mem_filter.1 hed
      have hl := hedges ed (by simpa using hed1) hed2
      rcases hek with rfl | hek
      · exact hl
      · exact hI.closed _ hl k hek
    have hcan : fillL y (canonL ops D i) a0 = a := by
      rw [hI.act]
      refine fillL_filter y _ _ a0 hkeys ?_
      rintro ⟨d, j⟩ hq hp
      simp only [Bool.not_eq_false', Bool.or_eq_true, beq_iff_eq] at hp
      have hdst := mem_pairsOf.1 hq
      refine hI.open_ j d ?_ hdst
      rcases hp with rfl | hw
      · exact hun
      · have hjlt : j < listed.size := by
          rw [hI.size]
          rcases Nat.lt_or_ge j ops.size with h' | h'
          · exact h'
          · rw [Array.getElem?_eq_none h'] at hdst; cases hdst
        rw [listed_cases hjlt]
        cases hl : listed.getD j false with
        | false => rfl
        | true =>
          have := hI.closed j hl i (by simpa [waits] using hw)
          rw [hunf] at this
          cases this
    have hw := hop i o ho y w hI.grown (fun j hj => hI.facts j (hD j hj)) (fun a' w' => ∃ v, a' = a.put o.dst v ∧ R w w' ∧ Φ i v w')
    rw [hcan] at hw
    have hlen' : ((List.range ops.size).filter fun j => !(listed.setIfInBounds i true).getD j true).length ≤ fuel := by
      have : ((List.range ops.size).filter fun j => !(listed.setIfInBounds i true).getD j true).length < ((List.range ops.size).filter fun j => !listed.getD j true).length := by
        refine filter_lt _ i (fun j hj => ?_) (List.mem_range.2 hilt) (by rw [hun]; rfl) ?_
        · by_cases hij : i = j
          · subst hij
            have h2 : i < listed.size := by rw [hI.size]; exact hilt
            simp [h2] at hj
          · rw [getD_set_ne true hij] at hj; exact hj
        · have h2 : i < listed.size := by rw [hI.size]; exact hilt
          simp [h2]
      omega
    have hnext : ∀ v w', R w w' → Φ i v w' → wpAny P .any ops Q fuel (listed.setIfInBounds i true) (a.put o.dst v) w' := by
      intro v w' hr hφ
      have h2 : i < listed.size := by rw [hI.size]; exact hilt
      refine ih _ _ _ (fun k => if k = i then v else y k) hlen' ⟨by simp [hI.size], ?_, hRt hI.grown hr, ?_, ?_, ?_⟩
      · cases hd : o.dst with
        | none =>
          rw [hI.act]
          show fillL y (pairsOf ops) a0 = _
          refine fillL_congr _ _ _ _ fun p hp => ?_
          have := mem_pairsOf.1 (show (p.1, p.2) ∈ pairsOf ops from hp)
          have hne : p.2 ≠ i := fun he => by rw [he, ho] at this; simp [hd] at this
          simp [hne]
        | some d =>
          rw [hI.act, fillL_set y i v _ a0 d hkeys (mem_pairsOf.2 (by simp [ho, hd]))]
      · intro j hj
        by_cases hji : j = i
        · subst hji; simpa using hφ
        · simp only [hji, if_false]
          rw [getD_set_ne false (Ne.symm hji)] at hj
          exact hst j _ _ _ hr (hI.facts j hj)
      · intro j d hj hdst
        have hji : j ≠ i := fun he => by subst he; simp [h2] at hj
        simp only [hji, if_false]
        rw [getD_set_ne true (Ne.symm hji)] at hj
        exact hI.open_ j d hj hdst
      · intro j hj k hk
        by_cases hji : j = i
        · subst hji; exact getD_set_true (hD k hk)
        · rw [getD_set_ne false (Ne.symm hji)] at hj
          exact getD_set_true (hI.closed j hj k hk)
    unfold wpOp
    simp only [ho]
    have hw2 := hw (fun v w' hr hφ => ⟨v, rfl, hr, hφ⟩)
    split at hw2
    · rename_i hwa
      rw [if_pos hwa]
      refine .inl ?_
      have h3 : o.wp P a w (wpAny P .any ops Q fuel (listed.setIfInBounds i true)) (fun _ _ _ => False) :=
        Oper.wp_mono (fun a' w' ⟨v, he, hr, hφ⟩ => by subst he; exact hnext v w' hr hφ) hw2
      exact wp_exit h3
    · rename_i hwa
      rw [if_neg hwa]
      obtain ⟨v, he, hr, hφ⟩ := hw2
      rw [he]
      exact hnext v w hr hφ
where
  wp_exit {o : Oper} {a : Act} {w : World} {K : Act → World → Prop} {Q : Exit → Act → World → Prop} (h : o.wp P a w K (fun _ _ _ => False)) : o.wp P a w K Q := by
    unfold Oper.wp at *
    generalize (execOp a.eval o).run P w = r at *
    cases r with
    | ok n w' =>
      cases n <;> simp only [Oper.upon] at h ⊢
      case enter f args =>
        refine Calls.mono h fun e w'' he => ?_
        cases e with
        | returned v => exact he
        | panicked c => exact he.elim
        | outgrown => obtain ⟨_, _, hq⟩ := he; exact hq.elim
      all_goals exact h
    | halt x w' => cases x <;> simp only [Oper.upon] at h

/-- **A region that draws its order, by facts.** -/
theorem wp_region_facts {id : Nat} {a0 : Act} {w0 : World} {Q : Exit → Act → World → Prop} (R : World → World → Prop) (D : Array (List Nat)) (Φ : Nat → Value → World → Prop) (hm : P.follows .mixedOrders = true)
    (hRt : ∀ {a b c : World}, R a b → R b c → R a c) (hrr : ∀ w, R w w) (hd : R w0 w0.drew) (hchk : factsOK ops D = true) (hst : ∀ j v w w', R w w' → Φ j v w → Φ j v w')
    (hop : allWords (opWord P ops R D Φ a0 w0) 0 ops.toList)
    (hfin : ∀ y w, R w0 w → (∀ j, j < ops.size → Φ j (y j) w) → Q .normal (fillL y (pairsOf ops) a0) w) : (Code.region id ops true).wp P Q a0 w0 := by
  refine wp_region_any hm ?_
  refine wpAny_of_facts (R := R) (D := D) (Φ := Φ) (a0 := a0) (w0 := w0) hRt hchk hst hrr (fun i o ho => ?_) hfin ops.size _ a0 _ (fun j => match (ops[j]?).bind (·.dst) with | some d => a0.tmps.getD d undef | none => undef) ?_ ⟨by simp, ?_, hd, ?_, ?_, ?_⟩
  · have := allWords_get _ 0 i o hop (by simpa using ho)
    simpa using this
  · exact Nat.le_trans (List.length_filter_le _ _) (by simp)
  · symm
    have : ∀ (L : List (Nat × Nat)), (∀ p ∈ L, (ops[p.2]?).bind (·.dst) = some p.1) → fillL (fun j => match (ops[j]?).bind (·.dst) with | some d => a0.tmps.getD d undef | none => undef) L a0 = a0 := by
      intro L
      induction L with
      | nil => intro _; rfl
      | cons p L ih =>
        intro h
        obtain ⟨d, j⟩ := p
        have hd := h (d, j) (by simp)
        simp only at hd
        show fillL _ L (a0.put (some d) _) = a0
        simp only [hd]
        rw [put_self]
        exact ih (fun p hp => h p (by simp [hp]))
    exact this _ (fun p hp => mem_pairsOf.1 hp)
  · intro j hj
    have h : (Array.replicate ops.size false).getD j false = false := by
      simp [Array.getD]
    rw [h] at hj; cases hj
  · intro j d _ hdst
    simp only [hdst]
    exact put_self a0 d
  · intro j hj
    have h : (Array.replicate ops.size false).getD j false = false := by
      simp [Array.getD]
    rw [h] at hj; cases hj


/-! ### the same with written-out tables -/
/-- Equality with a value, as a fact. -/
def Is (v : Value) (u : Value) (_ : World) : Prop := u = v

def depsH (Φ : List (Value → World → Prop)) (y : Nat → Value) (w : World) : List Nat → Prop
  | [] => True
  | j :: r => Φ.getD j (fun _ _ => True) (y j) w ∧ depsH Φ y w r
theorem depsH_of {Φ : List (Value → World → Prop)} {y : Nat → Value} {w : World} : ∀ (d : List Nat), (∀ j ∈ d, Φ.getD j (fun _ _ => True) (y j) w) → depsH Φ y w d
  | [], _ => trivial
  | j :: r, h => ⟨h j (by simp), depsH_of r (fun k hk => h k (by simp [hk]))⟩
def stL (R : World → World → Prop) : List (Value → World → Prop) → Prop
  | [] => True
  | φ :: r => (∀ v w w', R w w' → φ v w → φ v w') ∧ stL R r
theorem stL_mem {R : World → World → Prop} : ∀ (Φ : List (Value → World → Prop)), stL R Φ → ∀ φ ∈ Φ, ∀ v w w', R w w' → φ v w → φ v w'
  | φ :: r, h, ψ, hm => by
    rcases List.mem_cons.1 hm with e | e
    · subst e; exact h.1
    · exact stL_mem r h.2 ψ e
theorem is_st {R : World → World → Prop} {x : Value} : ∀ v w w', R w w' → Is x v w → Is x v w' := fun _ _ _ _ h => h
/-- All facts, one behind the other. -/
def factsH (y : Nat → Value) (w : World) : Nat → List (Value → World → Prop) → Prop
  | _, [] => True
  | i, φ :: r => φ (y i) w ∧ factsH y w (i + 1) r
theorem factsH_of {Φ0 : List (Value → World → Prop)} {y : Nat → Value} {w : World} : ∀ (Φ : List (Value → World → Prop)) (i : Nat), (∀ k, Φ[k]? = Φ0[i + k]?) → (∀ j, j < i + Φ.length → Φ0.getD j (fun _ _ => True) (y j) w) → factsH y w i Φ
  | [], _, _, _ => trivial
  | φ :: r, i, h, hj => by
    refine ⟨?_, factsH_of r (i + 1) (fun k => ?_) (fun j hj' => hj j (by simp; omega))⟩
    · have h0 := hj i (by simp)
      have := h 0
      simp at this
      simpa [List.getD_eq_getElem?_getD, ← this] using h0
    · have := h (k + 1)
      simp at this
      rw [this]; congr 1; omega

def word (P : Program) (ops : Array Oper) (R : World → World → Prop) (Φ : List (Value → World → Prop)) (a0 : Act) (w0 : World) (i : Nat) (o : Oper) (d : List Nat) (c : List (Nat × Nat)) : Prop :=
  ∀ (y : Nat → Value) (w : World), R w0 w → depsH Φ y w d → ∀ K : Act → World → Prop,
    (∀ a' v w', a' = (fillL y c a0).put o.dst v → R w w' → Φ.getD i (fun _ _ => True) v w' → K a' w') →
    if Region.wanted o (yielded ops (fillL y c a0).tmps) then o.wp P (fillL y c a0) w K (fun _ _ _ => False) else K ((fillL y c a0).put o.dst undef) w

def allW (P : Program) (ops : Array Oper) (R : World → World → Prop) (Φ : List (Value → World → Prop)) (a0 : Act) (w0 : World) : Nat → List Oper → List (List Nat) → List (List (Nat × Nat)) → Prop
  | _, [], _, _ => True
  | i, o :: r, d :: ds, c :: cs => word P ops R Φ a0 w0 i o d c ∧ allW P ops R Φ a0 w0 (i + 1) r ds cs
  | _, _ :: _, _, _ => False

def tablesOK (ops : Array Oper) (D : List (List Nat)) (C : List (List (Nat × Nat))) (F : List (Nat × Nat)) : Bool :=
  factsOK ops D.toArray && (decide (F = pairsOf ops)) && (List.range ops.size).all fun i => decide (C.getD i [] = canonL ops D.toArray i)

theorem allW_words {R : World → World → Prop} {Φ : List (Value → World → Prop)} {a0 : Act} {w0 : World} (D0 : List (List Nat)) (C0 : List (List (Nat × Nat))) (hC : ∀ i, i < ops.size → C0.getD i [] = canonL ops D0.toArray i) :
    ∀ (l : List Oper) (i : Nat) (D : List (List Nat)) (C : List (List (Nat × Nat))), i + l.length = ops.size → (∀ k, D[k]? = D0[i + k]?) → (∀ k, C[k]? = C0[i + k]?) → allW P ops R Φ a0 w0 i l D C →
      allWords (opWord P ops R D0.toArray (fun j => Φ.getD j (fun _ _ => True)) a0 w0) i l := by
  intro l
  induction l with
  | nil => intros; trivial
  | cons o r ih =>
    intro i D C hl hD hC' h
    match D, C, h with
    | d :: ds, c :: cs, h =>
      obtain ⟨h1, h2⟩ := h
      refine ⟨?_, ih (i + 1) ds cs (by simp at hl; omega) (fun k => ?_) (fun k => ?_) h2⟩
      · have hd : D0.toArray.getD i [] = d := by
          have := hD 0
          simp at this
          simp [Array.getD_eq_getD_getElem?, ← this]
        have hc : canonL ops D0.toArray i = c := by
          rw [← hC i (by simp at hl; omega)]
          have := hC' 0
          simp at this
          simp [List.getD_eq_getElem?_getD, ← this]
        intro y w hR hj K hK
        rw [hd] at hj
        rw [hc] at hK ⊢
        exact h1 y w hR (depsH_of _ hj) K (fun a' v w' he hr hφ => by subst he; exact hK v w' hr hφ)
      · have := hD (k + 1)
        simp at this
        rw [this]; congr 1; omega
      · have := hC' (k + 1)
        simp at this
        rw [this]; congr 1; omega

/-- **A region that draws its order, by facts, the tables written out.** -/
theorem wp_region_tables {id : Nat} {a0 : Act} {w0 : World} {Q : Exit → Act → World → Prop} (R : World → World → Prop) (D : List (List Nat)) (C : List (List (Nat × Nat))) (F : List (Nat × Nat)) (Φ : List (Value → World → Prop)) (hm : P.follows .mixedOrders = true)
    (hRt : ∀ {a b c : World}, R a b → R b c → R a c) (hrr : ∀ w, R w w) (hd : R w0 w0.drew) (hchk : tablesOK ops D C F = true) (hst : stL R Φ)
    (hop : allW P ops R Φ a0 w0 0 ops.toList D C)
    (hlen : Φ.length = ops.size)
    (hfin : ∀ y w, R w0 w → factsH y w 0 Φ → Q .normal (fillL y F a0) w) : (Code.region id ops true).wp P Q a0 w0 := by
  simp only [tablesOK, Bool.and_eq_true, decide_eq_true_eq, List.all_eq_true, List.mem_range] at hchk
  obtain ⟨⟨h1, h2⟩, h3⟩ := hchk
  subst h2
  refine wp_region_facts R D.toArray (fun j => Φ.getD j (fun _ _ => True)) hm hRt hrr hd h1 ?_ (allW_words D C h3 ops.toList 0 D C (by simp) (by simp) (by simp) hop) (fun y w hr hj => hfin y w hr (factsH_of Φ 0 (by simp) (fun j h => hj j (by rw [← hlen]; simpa using h))))
  intro j v w w' hr hφ
  rcases Nat.lt_or_ge j Φ.length with hj | hj
  · have e : Φ.getD j (fun _ _ => True) = Φ[j] := by simp [List.getD_eq_getElem?_getD, hj]
    rw [e] at hφ ⊢
    exact stL_mem Φ hst _ (List.getElem_mem hj) v w w' hr hφ
  · have e : Φ.getD j (fun _ _ => True) = fun _ _ => True := by simp [List.getD_eq_getElem?_getD, hj]
    rw [e]; trivial

end
end Go.Proofs.Ytfbeepkogcmlmaa

/-
  Plain lemmas over any program: small laws that the walks of this claim use beside the kit's. Conditions: each states its own.
-/
namespace Go.Proofs.Ytfbeepkogcmlmaa
set_option linter.unusedSimpArgs false
set_option linter.unusedVariables false
open Go Go.RowKit

theorem ret_bool {a b : Bool} (h : a = b) : Ending.returned (.bool a) = .returned (.bool b) := by rw [h]

section
variable {P : Program}

end

end Go.Proofs.Ytfbeepkogcmlmaa

/-
  The buffer in memory: what a world holds of it, which blocks a call may turn, and the contracts of the small calls (none, Err, Len, fail).
-/
namespace Go.Proofs.Ytfbeepkogcmlmaa
open Go Go.ChangeShapes Go.WideShapes Go.ChangeAt Go.RowKit Go.Joins
open Go.ChangeMaps (open_string shut_string)
set_option linter.unusedVariables false
set_option linter.unusedSimpArgs false

theorem Grew.drewN {a w : World} (h : Grew a w) (n : Nat) : Grew a (w.drewN n) := by
  have h2 : Below a.heap.size a w := h
  exact ⟨h2.os, h2.tape, h2.output, h2.size, h2.block⟩
/-- Old blocks outside S are as they were. -/
structure Moved (S : Nat → Prop) (w w' : World) : Prop where
  os : w'.os = w.os
  tape : w'.tape = w.tape
  output : w'.output = w.output
  size : w.heap.size ≤ w'.heap.size
  block : ∀ k, k < w.heap.size → ¬ S k → w'.heap[k]? = w.heap[k]?

namespace Moved
variable {S T : Nat → Prop} {a b c w w' : World}
theorem refl (S : Nat → Prop) (w : World) : Moved S w w := ⟨rfl, rfl, rfl, Nat.le_refl _, fun _ _ _ => rfl⟩
theorem trans (h : Moved S a b) (k : Moved T b c) (hT : ∀ j, j < a.heap.size → T j → S j) : Moved S a c :=
  ⟨k.os.trans h.os, k.tape.trans h.tape, k.output.trans h.output, Nat.le_trans h.size k.size,
   fun j hj hS => (k.block j (Nat.lt_of_lt_of_le hj h.size) (fun ht => hS (hT j hj ht))).trans (h.block j hj hS)⟩
theorem trans' (h : Moved S a b) (k : Moved S b c) : Moved S a c := h.trans k (fun _ _ h => h)
theorem mono (h : Moved S a b) (hS : ∀ j, j < a.heap.size → S j → T j) : Moved T a b := ⟨h.os, h.tape, h.output, h.size, fun j hj hT => h.block j hj (fun hs => hT (hS j hj hs))⟩
theorem of_grew (h : Grew a b) : Moved S a b := ⟨h.os, h.tape, h.output, h.size, fun k hk _ => h.block k hk⟩
theorem grew (h : Moved S a b) (k : Grew b c) : Moved S a c := h.trans (of_grew (S := fun _ => False) k) (fun _ _ h => h.elim)
theorem of_grown {row : Option Nat} (h : w.grownBy w' row) : Moved (fun k => some k = row) w w' := ⟨h.os, h.tape, h.output, h.size, h.block⟩
theorem alloc (h : Moved S a w) (o : Obj) : Moved S a (w.alloc o) := h.grew ((Grew.refl w).alloc o)
theorem setCell (h : Moved S a w) {p : Addr} (hp : p.block < a.heap.size → S p.block) (u : Value) : Moved S a (w.setCell p u) :=
  h.trans (T := fun k => k = p.block) ⟨rfl, rfl, rfl, by simp [World.setCell], fun k _ hk => Below.heap_setCell _ _ _ _ hk⟩ (fun j hj e => e ▸ hp (e ▸ hj))
theorem drew (h : Moved S a w) : Moved S a w.drew := ⟨h.os, h.tape, h.output, h.size, h.block⟩
theorem below {B : Nat} (h : Moved S a b) (hB : B ≤ a.heap.size) (hS : ∀ k, S k → B ≤ k) : Below B a b :=
  ⟨h.os, h.tape, h.output, h.size, fun k hk => h.block k (by omega) (fun hs => by have := hS k hs; omega)⟩
theorem heap (h : Moved S w w') {k : Nat} {o : Obj} (hk : w.heap[k]? = some o) (hS : ¬ S k) : w'.heap[k]? = some o :=
  (h.block k (Array.getElem?_eq_some_iff.1 hk).1 hS).trans hk
theorem cell (h : Moved S w w') {p : Addr} {v : Value} (hc : w.cell? p = some v) (hS : ¬ S p.block) : w'.cell? p = some v :=
  (World.cell?_of_block (h.block p.block (World.block_lt_of_cell? w p hc) hS)).trans hc
theorem owns (h : Moved S w w') {B : Nat} {e : TypeId} {size : Nat} {v : Value} {n : Nat} {xs : List Value} (ho : w.ownsRow B e size v n xs) (hS : ∀ k, v.ownBlock = some k → ¬ S k) : w'.ownsRow B e size v n xs := by
  obtain ⟨h1, h2⟩ := ho
  refine ⟨h1, ?_⟩
  rcases h2 with h2 | ⟨g, cap, cur, rfl, hb, hg, r⟩
  · exact .inl h2
  · exact .inr ⟨g, cap, cur, rfl, hb, h.heap hg (hS g rfl), r⟩
end Moved

/-- The blocks of one buffer: its own and its row's. -/
def Own2 (p : Nat) (o : Option Nat) (k : Nat) : Prop := k = p ∨ some k = o
/-- The row is the old one, or a new block, or none. -/
def Next (w : World) (o o' : Option Nat) : Prop := ∀ k, o' = some k → o = some k ∨ w.heap.size ≤ k
theorem Next.refl (w : World) (o : Option Nat) : Next w o o := fun _ h => .inl h
theorem Next.fresh {w : World} {o : Option Nat} {j : Nat} (h : w.heap.size ≤ j) : Next w o (some j) := fun k e => by cases e; exact .inr h
theorem Next.trans {w w' : World} {o o1 o2 : Option Nat} (h : Next w o o1) (k : Next w' o1 o2) (hs : w.heap.size ≤ w'.heap.size) : Next w o o2 := fun j e => by
  rcases k j e with h1 | h1
  · exact h j h1
  · exact .inr (by omega)
/-- What a call on a buffer may turn. -/
theorem Moved.own {p : Nat} {o o' : Option Nat} {a b c : World} (h : Moved (Own2 p o) a b) (hn : Next a o o') (k : Moved (Own2 p o') b c) : Moved (Own2 p o) a c :=
  h.trans k fun j hj hs => by
    rcases hs with rfl | hs
    · exact .inl rfl
    · rcases hn j hs.symm with h1 | h1
      · exact .inr h1.symm
      · omega

section
variable {B : Nat} {w w' : World} {p : Nat} {o : Option Nat} {l : List UInt8} {most e : Int}
theorem row_frozen {cs : Array Value} {t : TypeId} (h : w.heap[p]? = some (.cells cs t (0, 0))) (k : Nat) : w.frozen? ⟨p, k, none⟩ = false := by
  unfold World.frozen?
  simp only [h]
  simp
end
abbrev bptr (p : Nat) : Value := .pointer (some ⟨p, 0, none⟩)

end Go.Proofs.Ytfbeepkogcmlmaa

/-
  Trees: the plain tree, what a world holds of it (read: NodeAt; owned: OwnT), and how an argument of the node's type reads. Conditions: the argument can be read as data.
-/
namespace Go.Proofs.Ytfbeepkogcmlmaa
open Go Go.ChangeShapes Go.WideShapes Go.ChangeAt Go.RowKit Go.Joins Go.Deep
set_option linter.unusedVariables false
set_option linter.unusedSimpArgs false

/-- A tree: kind, signed number, unsigned number, string, keys, children. -/
inductive Tr where
  | mk (k n u : Int) (s : ByteArray) (keys : List ByteArray) (l : List Tr)

def Tr.kids : Tr → List Tr | .mk _ _ _ _ _ l => l
def Tr.kind : Tr → Int | .mk k _ _ _ _ _ => k
def Tr.keys : Tr → List ByteArray | .mk _ _ _ _ ks _ => ks
mutual
def Tr.size : Tr → Nat | .mk _ _ _ _ _ l => sizeL l + 1
def sizeL : List Tr → Nat | [] => 0 | t :: r => t.size + sizeL r
end
theorem Tr.size_pos (t : Tr) : 1 ≤ t.size := by cases t; simp [Tr.size]
theorem size_mem {x : Tr} {l : List Tr} (h : x ∈ l) : x.size ≤ sizeL l := by
  induction l with
  | nil => cases h
  | cons t r ih =>
    simp only [sizeL]
    rcases List.mem_cons.1 h with rfl | h
    · omega
    · have := ih h; omega
theorem length_sizeL (l : List Tr) : l.length ≤ sizeL l := by
  induction l with
  | nil => simp [sizeL]
  | cons t r ih => have := t.size_pos; simp only [sizeL, List.length_cons]; omega

def i64ok (x : Int) : Prop := -9223372036854775808 ≤ x ∧ x ≤ 9223372036854775807
def u64ok (x : Int) : Prop := 0 ≤ x ∧ x ≤ 18446744073709551615
def lenok (n : Nat) : Prop := n ≤ 9223372036854775807

/-- A slice of strings, read. -/
def StrsAt (w : World) (v : Value) (l : List ByteArray) : Prop :=
  ∃ a c, v = .slice a l.length c ∧ l.length ≤ c ∧ lenok c ∧ (a = none → c = 0) ∧ ∀ i s, l[i]? = some s → lenok s.size ∧ ∃ b off, a = some ⟨b, off, none⟩ ∧ w.cell? ⟨b, off + i, none⟩ = some (.string s)
/-- The six cells from an offset on hold a node's value. -/
def Cells6 (w : World) (b off : Nat) (v : Value) : Prop :=
  ∃ c0 c1 c2 c3 c4 c5, v = .agg #[c0, c1, c2, c3, c4, c5] ∧ w.cell? ⟨b, off, none⟩ = some c0 ∧ w.cell? ⟨b, off + 1, none⟩ = some c1 ∧ w.cell? ⟨b, off + 2, none⟩ = some c2 ∧ w.cell? ⟨b, off + 3, none⟩ = some c3 ∧ w.cell? ⟨b, off + 4, none⟩ = some c4 ∧ w.cell? ⟨b, off + 5, none⟩ = some c5
/-- A slice of nodes, as its elements' values. -/
def RowsAt (w : World) (v : Value) (vs : List Value) : Prop :=
  ∃ a c, v = .slice a vs.length c ∧ vs.length ≤ c ∧ lenok c ∧ (a = none → c = 0) ∧ ∀ i x, vs[i]? = some x → ∃ b off, a = some ⟨b, off, none⟩ ∧ Cells6 w b (off + i * 6) x
mutual
/-- The value v is the tree, read in w. -/
def NodeAt (w : World) : Tr → Value → Prop
  | .mk k n u s keys l, v => (i64ok k ∧ i64ok n ∧ u64ok u ∧ lenok s.size) ∧ ∃ kv lv vs, v = .agg #[.int .i64 k, .int .i64 n, .int .u64 u, .string s, kv, lv] ∧ StrsAt w kv keys ∧ RowsAt w lv vs ∧ KidsAt w l vs
def KidsAt (w : World) : List Tr → List Value → Prop
  | [], vs => vs = []
  | t :: r, vs => ∃ v vr, vs = v :: vr ∧ NodeAt w t v ∧ KidsAt w r vr
end
section
variable {w w' : World} {v : Value} {vs : List Value} {t : Tr} {l : List Tr}
theorem StrsAt.grew {ks : List ByteArray} (h : StrsAt w v ks) (hg : Grew w w') : StrsAt w' v ks := by
  obtain ⟨a, c, h1, h2, h3, h4, h5⟩ := h
  refine ⟨a, c, h1, h2, h3, h4, fun i s hs => ?_⟩
  obtain ⟨hz, b, off, e, hc⟩ := h5 i s hs
  exact ⟨hz, b, off, e, hg.cell hc⟩
theorem Cells6.grew {b off : Nat} (h : Cells6 w b off v) (hg : Grew w w') : Cells6 w' b off v := by
  obtain ⟨c0, c1, c2, c3, c4, c5, e, h0, h1, h2, h3, h4, h5⟩ := h
  exact ⟨c0, c1, c2, c3, c4, c5, e, hg.cell h0, hg.cell h1, hg.cell h2, hg.cell h3, hg.cell h4, hg.cell h5⟩
theorem RowsAt.grew (h : RowsAt w v vs) (hg : Grew w w') : RowsAt w' v vs := by
  obtain ⟨a, c, h1, h2, h3, h4, h5⟩ := h
  refine ⟨a, c, h1, h2, h3, h4, fun i x hx => ?_⟩
  obtain ⟨b, off, e, hc⟩ := h5 i x hx
  exact ⟨b, off, e, hc.grew hg⟩
mutual
theorem NodeAt.grew (hg : Grew w w') : ∀ {t : Tr} {v : Value}, NodeAt w t v → NodeAt w' t v
  | .mk k n u s keys l, v, ⟨hb, kv, lv, vs, e, h1, h2, h3⟩ => ⟨hb, kv, lv, vs, e, h1.grew hg, h2.grew hg, KidsAt.grew hg h3⟩
theorem KidsAt.grew (hg : Grew w w') : ∀ {l : List Tr} {vs : List Value}, KidsAt w l vs → KidsAt w' l vs
  | [], _, h => h
  | t :: r, _, ⟨v, vr, e, h1, h2⟩ => ⟨v, vr, e, NodeAt.grew hg h1, KidsAt.grew hg h2⟩
end
theorem KidsAt.length (h : KidsAt w l vs) : vs.length = l.length := by
  induction l generalizing vs with
  | nil => simp only [KidsAt] at h; subst h; rfl
  | cons t r ih =>
    simp only [KidsAt] at h
    obtain ⟨v, vr, rfl, _, h2⟩ := h
    simp [ih h2]
theorem KidsAt.get (h : KidsAt w l vs) {i : Nat} {x : Tr} (hx : l[i]? = some x) : ∃ v, vs[i]? = some v ∧ NodeAt w x v := by
  induction l generalizing vs i with
  | nil => simp at hx
  | cons t r ih =>
    simp only [KidsAt] at h
    obtain ⟨v, vr, rfl, h1, h2⟩ := h
    cases i with
    | zero => simp at hx; subst hx; exact ⟨v, rfl, h1⟩
    | succ i => simpa using ih h2 (i := i) (by simpa using hx)
theorem KidsAt.mk (hl : vs.length = l.length) (h : ∀ (i : Nat) (x : Tr) (v : Value), l[i]? = some x → vs[i]? = some v → NodeAt w x v) : KidsAt w l vs := by
  induction l generalizing vs with
  | nil => simp only [KidsAt]; exact List.length_eq_zero_iff.1 hl
  | cons t r ih =>
    cases vs with
    | nil => simp at hl
    | cons v vr =>
      simp only [KidsAt]
      exact ⟨v, vr, rfl, h 0 t v rfl rfl, ih (by simpa using hl) (fun i x v hx hv => h (i + 1) x v (by simpa using hx) (by simpa using hv))⟩
end

/-! ### how an argument reads -/
set_option maxRecDepth 100000 in
theorem cells_node : Try.prog.cellsOf 26 = 6 := by kernel_rfl
set_option maxRecDepth 100000 in
theorem cells_nint : Try.prog.cellsOf 3 = 1 := by kernel_rfl
set_option maxRecDepth 100000 in
theorem cells_ni64 : Try.prog.cellsOf 2 = 1 := by kernel_rfl
set_option maxRecDepth 100000 in
theorem cells_nu64 : Try.prog.cellsOf 22 = 1 := by kernel_rfl
set_option maxRecDepth 100000 in
theorem cells_nstr : Try.prog.cellsOf 9 = 1 := by kernel_rfl
set_option maxRecDepth 100000 in
theorem cells_nstrs : Try.prog.cellsOf 23 = 1 := by kernel_rfl
set_option maxRecDepth 100000 in
theorem cells_nnodes : Try.prog.cellsOf 24 = 1 := by kernel_rfl
theorem add_off (a : Addr) (b off i : Nat) (h : a = ⟨b, off, none⟩) : a.add i = ⟨b, off + i, none⟩ := by
  subst h
  by_cases h0 : i = 0
  · subst h0; simp [Addr.add]
  · simp [Addr.add, h0]
section
variable {H : Type} {enc : TypeId × Value → H} {W : World}
theorem strs_of_trod {fuel : Nat} {cs : List Value} {x : DataW H × List MemPlace} (h : DataW.trod enc Try.prog W 0 (fun _ => true) true fuel 23 cs = some x) : ∃ v l, cs = [v] ∧ StrsAt W v l := by
  rcases Go.Deep.open_strs Try.underlying23 Try.underlying9 cells_nstr h with ⟨rfl, _⟩ | ⟨a, len, cap, m, Sx, rfl, _, hl, hm, hmm, _, hi⟩
  · exact ⟨_, [], rfl, none, 0, rfl, by simp, by unfold lenok; omega, fun _ => rfl, by simp⟩
  · have hmc : m = cap := by simpa using hmm
    subst hmc
    refine ⟨_, (List.range len).map Sx, rfl, some a, m, by simp, by simpa using hl, by unfold maxLen at hm; exact hm, (fun h => by cases h), fun i s hs => ?_⟩
    have hil : i < len := by have := (List.getElem?_eq_some_iff.1 hs).1; simpa using this
    have hsx : Sx i = s := by have := (List.getElem?_eq_some_iff.1 hs).2; simpa using this
    obtain ⟨hc, hz⟩ := hi i (by omega)
    rw [hsx] at hc hz
    have h0 := (hi 0 (by omega)).1
    obtain ⟨b, off, spot⟩ := a
    obtain rfl : spot = none := by simpa [Addr.add] using World.cell?_spot h0
    exact ⟨hz, b, off, rfl, by rw [add_off _ b off i rfl] at hc; exact hc⟩
theorem i64_of {q : Int} (h : (Lit.int .i64 q).wf = true) : i64ok q := bounds_i64 h
theorem u64_of {q : Int} (h : (Lit.int .u64 q).wf = true) : u64ok q := by
  simp [Lit.wf, IntKind.min, IntKind.max, IntKind.signed, IntKind.bits] at h
  unfold u64ok
  omega
set_option maxRecDepth 100000 in
theorem node_of_trod : ∀ (fuel : Nat) (cs : List Value) (x : DataW H × List MemPlace), DataW.trod enc Try.prog W 0 (fun _ => true) true fuel 26 cs = some x →
    ∃ c0 c1 c2 c3 c4 c5 t, cs = [c0, c1, c2, c3, c4, c5] ∧ NodeAt W t (.agg #[c0, c1, c2, c3, c4, c5]) := by
  intro fuel
  induction fuel using Nat.strongRecOn with
  | _ fuel ih =>
    intro cs x h
    obtain ⟨xs, n1, e1, _, hcl, hlen, hg⟩ := DataW.trod_struct Try.underlying26 h
    rw [cells_node] at hcl
    match cs, hcl with
    | [c0, c1, c2, c3, c4, c5], _ =>
      match xs, hlen with
      | [y0, y1, y2, y3, y4, y5], _ =>
        have g0 := hg 0 _ rfl
        have g1 := hg 1 _ rfl
        have g2 := hg 2 _ rfl
        have g3 := hg 3 _ rfl
        have g4 := hg 4 _ rfl
        have g5 := hg 5 _ rfl
        simp [cells_nint, cells_ni64, cells_nu64, cells_nstr, cells_nstrs, cells_nnodes] at g0 g1 g2 g3 g4 g5
        obtain ⟨x0, e0, _, w0⟩ := DataW.trod_int Try.underlying3 g0
        obtain ⟨x1, e1', _, w1⟩ := DataW.trod_int Try.underlying2 g1
        obtain ⟨x2, e2, _, w2⟩ := DataW.trod_int Try.underlying22 g2
        obtain ⟨x3, e3, _, w3⟩ := DataW.trod_string Try.underlying9 g3
        obtain ⟨kv, keys, e4, hks⟩ := strs_of_trod g4
        simp at e0 e1' e2 e3 e4
        subst e0 e1' e2 e3 e4
        have hrow : ∃ lv vs l, c5 = lv ∧ RowsAt W lv vs ∧ KidsAt W l vs := by
          rcases DataW.trod_slice Try.underlying24 g5 with ⟨hcs, _⟩ | ⟨a, len, cap, elems, rest, n2, e5, hcs, _, _, hl, hm, hel, hi, hr, _⟩
          · simp at hcs
            exact ⟨_, [], [], hcs, ⟨none, 0, rfl, by simp, by unfold lenok; omega, fun _ => rfl, by simp⟩, by simp [KidsAt]⟩
          · simp at hcs
            rw [cells_node] at hi
            have hex : ∀ i, i < len → ∃ p : Tr × Value, NodeAt W p.1 p.2 ∧ ∃ b off, a = ⟨b, off, none⟩ ∧ Cells6 W b (off + i * 6) p.2 := by
              intro i hil
              have hi' := hi i hil
              rw [List.getElem?_eq_getElem (by omega)] at hi'
              obtain ⟨cs', hc, ht⟩ := Option.bind_eq_some_iff.1 hi'
              obtain ⟨d0, d1, d2, d3, d4, d5, t, rfl, hn⟩ := ih n2 (by omega) _ _ ht
              obtain ⟨_, _, hat⟩ := World.cells?_some hc
              have hspot : a.spot = none := by
                have h0 := hi 0 (by omega)
                rw [List.getElem?_eq_getElem (by omega)] at h0
                obtain ⟨cs0, hc0, ht0⟩ := Option.bind_eq_some_iff.1 h0
                obtain ⟨_, _, hat0⟩ := World.cells?_some hc0
                have q := hat0 0 (by omega)
                have hz : (a.add (0 * 6)).add 0 = a := by simp [Addr.add]
                rw [hz] at q
                cases hq : cs0[0]? with
                | none => rw [hq] at q; exact absurd (by simpa using congrArg Option.isSome q) (by
                    have := (World.cells?_some hc0).2.1
                    rw [List.getElem?_eq_none_iff] at hq; omega)
                | some u => rw [hq] at q; exact World.cell?_spot q
              obtain ⟨b, off, spot⟩ := a
              subst hspot
              have q0 := hat 0 (by omega)
              have q1 := hat 1 (by omega)
              have q2 := hat 2 (by omega)
              have q3 := hat 3 (by omega)
              have q4 := hat 4 (by omega)
              have q5 := hat 5 (by omega)
              rw [add_off _ b off (i * 6) rfl, add_off _ b (off + i * 6) _ rfl] at q0 q1 q2 q3 q4 q5
              exact ⟨(t, _), hn, b, off, rfl, d0, d1, d2, d3, d4, d5, rfl, by simpa using q0, by simpa using q1, by simpa using q2, by simpa using q3, by simpa using q4, by simpa using q5⟩
            have : Inhabited (Tr × Value) := ⟨(.mk 0 0 0 ByteArray.empty [] [], .bool true)⟩
            obtain ⟨f, hf⟩ := choose_lt hex
            refine ⟨_, (List.range len).map fun i => (f i).2, (List.range len).map fun i => (f i).1, hcs, ⟨some a, cap, by simp, by simpa using hl, by unfold maxLen at hm; exact hm, (fun h => by cases h), fun i x hx => ?_⟩, ?_⟩
            · have hil : i < len := by have := (List.getElem?_eq_some_iff.1 hx).1; simpa using this
              have hxe : (f i).2 = x := by have := (List.getElem?_eq_some_iff.1 hx).2; simpa using this
              obtain ⟨_, b, off, e, hc⟩ := hf i hil
              rw [hxe] at hc
              exact ⟨b, off, by rw [e], hc⟩
            · refine KidsAt.mk (by simp) fun i x v hx hv => ?_
              have hil : i < len := by have := (List.getElem?_eq_some_iff.1 hx).1; simpa using this
              have hxe : (f i).1 = x := by have := (List.getElem?_eq_some_iff.1 hx).2; simpa using this
              have hve : (f i).2 = v := by have := (List.getElem?_eq_some_iff.1 hv).2; simpa using this
              have := (hf i hil).1
              rwa [hxe, hve] at this
        obtain ⟨lv, vs, l, e5, hr, hk⟩ := hrow
        subst e5
        exact ⟨_, _, _, _, _, _, .mk x0 x1 x2 x3 keys l, rfl, ⟨i64_of w0, i64_of w1, u64_of w2, by unfold maxLen at w3; exact w3⟩, _, _, vs, rfl, hks, hr, hk⟩
set_option maxRecDepth 100000 in
theorem open_node {base : Nat} {v : Value} {d : DataW H} {p : List MemPlace} (o : Value.okWide Try.prog W .any base 26 v) (k : DataW.Trod enc Try.prog W 0 (fun _ => true) true 26 v d p) : ∃ t, NodeAt W t v := by
  simp only [Value.okWide, Try.underlying26] at o
  obtain ⟨cs, rfl, hsz, _⟩ := o
  obtain ⟨fuel, hf⟩ := k
  obtain ⟨c0, c1, c2, c3, c4, c5, t, e, hn⟩ := node_of_trod fuel _ _ hf
  simp [Value.cells] at e
  obtain ⟨l⟩ := cs
  simp at e
  subst e
  exact ⟨t, hn⟩
end

end Go.Proofs.Ytfbeepkogcmlmaa

/-
  The buffer's put: the error stays, or the capacity is spent, or the bytes are appended.
-/
namespace Go.Proofs.Ytfbeepkogcmlmaa
open Go Go.ChangeShapes Go.WideShapes Go.ChangeAt Go.RowKit Go.Joins
set_option linter.unusedVariables false
set_option linter.unusedSimpArgs false

/-- A byte slice that reads as x. -/
def BytesAt (w : World) (v : Value) (x : List UInt8) : Prop :=
  ∃ a c, v = .slice a x.length c ∧ x.length ≤ c ∧ (a = none → c = 0) ∧ ∀ (i : Nat) (b : UInt8), x[i]? = some b → ∃ bl off, a = some ⟨bl, off, none⟩ ∧ w.cell? ⟨bl, off + i, none⟩ = some (.int .u8 b.toNat)
theorem BytesAt.grew {w w' : World} {v : Value} {x : List UInt8} (h : BytesAt w v x) (hg : Grew w w') : BytesAt w' v x := by
  obtain ⟨a, c, h1, h2, h3, h4⟩ := h
  refine ⟨a, c, h1, h2, h3, fun i b hb => ?_⟩
  obtain ⟨bl, off, e, hc⟩ := h4 i b hb
  exact ⟨bl, off, e, hg.cell hc⟩
theorem BytesAt.nil (w : World) : BytesAt w (.slice none 0 0) [] := ⟨none, 0, rfl, Nat.le_refl _, fun _ => rfl, by simp⟩
/-- Behind an append the row is the old one or a new block. -/
theorem append_next {P : Program} (w : World) (base : Nat) (t ty e : TypeId) (i : TypeInfo) (z : Value) (size bytes : Nat) (ht : P.underlying t = some (.slice e)) (hi : P.info? e = some i) (hz : i.zero = some z)
    (hsize : i.size = size) (hby : i.bytes = bytes) (hzs : z.cells.size = size) (hsz : 0 < size)
    (v : Value) (n : Nat) (xs : List Value) (hown : w.ownsRow base e size v n xs)
    (a : Addr) (m c : Nat) (news : List Value) (hl : news.length = m * size) (hnews : ∀ j u, news[j]? = some u → w.cell? (a.add j) = some u) (h1 : ∀ u ∈ news, u.oneCell' = true)
    (h63 : n + m ≤ maxLen) (hbytes : (n + m) * bytes ≤ 140737488355328) (hbase : base ≤ w.heap.size) :
    ∃ v' w', (Builtin.append_ #[t, t] ty #[v, .slice (some a) m c]).run P w = .ok v' w' ∧ w'.ownsRow base e size v' (n + m) (xs ++ news) ∧ w.grownBy w' v.ownBlock ∧ Next w v.ownBlock v'.ownBlock := by
  obtain ⟨v', w', hr, h2, h3, h4⟩ := run_append_own (P := P) w base t ty e i z size bytes ht hi hz hsize hby hzs hsz v n xs hown a m c news hl hnews h1 h63 hbytes hbase
  refine ⟨v', w', hr, h2, h3, ?_⟩
  subst hsize
  subst hby
  have h64 : n + m ≤ 9223372036854775807 := by simp only [maxLen] at h63; omega
  rcases hown.2 with ⟨rfl, rfl⟩ | ⟨g, cap, cur, rfl, hbg, hg, hnc, hcm, hcs, htake⟩
  · by_cases hm : m = 0
    · rw [h4.2 ⟨rfl, hm⟩]; exact Next.refl _ _
    · have hr2 := run_append_nil (P := P) w t ty e i z ht hi hz a m c news hl hnews (by omega) (by omega) (by have hb := hbytes; simp only [Nat.zero_add] at hb; omega)
      rw [hr] at hr2
      injection hr2 with e1 e2
      subst e1
      exact Next.fresh (Nat.le_refl _)
  · by_cases hroom : n + m ≤ cap
    · have hfit : n * i.size + news.length ≤ cur.size := by rw [hl, hcs, ← Nat.add_mul]; exact Nat.mul_le_mul_right _ hroom
      have hr2 := run_append_room (P := P) w t ty e i ht hi g n cap cur hg a m c news hl hnews h1 hroom hfit
      rw [hr] at hr2
      injection hr2 with e1 e2
      subst e1
      exact Next.refl _ _
    · have holds : ∀ j u, xs[j]? = some u → w.cell? ((⟨g, 0, none⟩ : Addr).add j) = some u := hown.cells (g := g) rfl
      have hr2 := run_append_grow (P := P) w t ty e i z ht hi hz ⟨g, 0, none⟩ n cap xs hown.1 holds a m c news hl hnews (by omega) (by omega) (growslice_fits (by omega) hbytes)
      rw [hr] at hr2
      injection hr2 with e1 e2
      subst e1
      exact Next.fresh (Nat.le_refl _)

end Go.Proofs.Ytfbeepkogcmlmaa

/-
  Trees: rows of nodes and of strings that the call makes; appending to them; small calls on strings.
-/
namespace Go.Proofs.Ytfbeepkogcmlmaa
open Go Go.ChangeShapes Go.WideShapes Go.ChangeAt Go.RowKit Go.Joins Go.Deep
set_option linter.unusedVariables false
set_option linter.unusedSimpArgs false

theorem row_cellT {w : World} {p : Nat} {cs : Array Value} {t : TypeId} (h : w.heap[p]? = some (.cells cs t (0, 0))) (k : Nat) (v : Value) (hv : cs[k]? = some v) : w.cell? ⟨p, k, none⟩ = some v := by
  rw [cell_of_row w p k _ _ _ h]; exact hv
def zeroNode : Value := .agg #[.int .i64 0, .int .i64 0, .int .u64 0, .string ⟨#[]⟩, .slice none 0 0, .slice none 0 0]
/-- The cells of a node's value. -/
def cells6 : Value → List Value
  | .agg cs => cs.toList
  | _ => []
/-- A value of the node's form. -/
def Node6 (v : Value) : Prop := ∃ (k n u : Int) (s : ByteArray) (a4 : Option Addr) (n4 c4 : Nat) (a5 : Option Addr) (n5 c5 : Nat), v = .agg #[.int .i64 k, .int .i64 n, .int .u64 u, .string s, .slice a4 n4 c4, .slice a5 n5 c5]
set_option maxRecDepth 100000 in
theorem Try.infoNode : (Try.prog.info? 26).map (fun i => (i.zero, i.size, i.bytes)) = some (some zeroNode, 6, 88) := by kernel_rfl
theorem node_parts : ∃ i0, Try.prog.info? 26 = some i0 ∧ i0.zero = some zeroNode ∧ i0.size = 6 ∧ i0.bytes = 88 := by
  have h := Try.infoNode
  cases hq : Try.prog.info? 26 with
  | none => simp [hq] at h
  | some i => simp [hq] at h; exact ⟨i, rfl, h.1, h.2.1, h.2.2⟩
theorem Try.infoStr : (Try.prog.info? 9).map (fun i => (i.zero, i.size, i.bytes)) = some (some (.string ⟨#[]⟩), 1, 16) := by kernel_rfl
theorem str_parts : ∃ i0, Try.prog.info? 9 = some i0 ∧ i0.zero = some (.string ⟨#[]⟩) ∧ i0.size = 1 ∧ i0.bytes = 16 := by
  have h := Try.infoStr
  cases hq : Try.prog.info? 9 with
  | none => simp [hq] at h
  | some i => simp [hq] at h; exact ⟨i, rfl, h.1, h.2.1, h.2.2⟩
theorem cells6_length {v : Value} (h : Node6 v) : (cells6 v).length = 6 := by
  obtain ⟨k, n, u, s, a4, n4, c4, a5, n5, c5, rfl⟩ := h; rfl
theorem cells6_one {v : Value} (h : Node6 v) : ∀ u ∈ cells6 v, u.oneCell' = true := by
  obtain ⟨k, n, u, s, a4, n4, c4, a5, n5, c5, rfl⟩ := h
  intro x hx
  simp only [cells6, List.mem_cons, List.not_mem_nil, or_false] at hx
  rcases hx with rfl | rfl | rfl | rfl | rfl | rfl <;> rfl
theorem rows_form {w : World} {B : Nat} {e : TypeId} {size : Nat} {v : Value} {n : Nat} {xs : List Value} (h : w.ownsRow B e size v n xs) : ∃ a c, v = .slice a n c ∧ n ≤ c ∧ lenok c ∧ (a = none → c = 0) := by
  rcases h.2 with ⟨rfl, hn⟩ | ⟨g, cap, cur, rfl, _, _, hn, hm, _⟩
  · exact ⟨none, 0, by rw [hn], by omega, by unfold lenok; omega, fun _ => rfl⟩
  · exact ⟨_, cap, rfl, hn, by unfold maxLen at hm; exact hm, (fun h => by cases h)⟩
theorem rows_base {w : World} {B B' : Nat} {e : TypeId} {size : Nat} {v : Value} {n : Nat} {xs : List Value} (h : w.ownsRow B e size v n xs) (hb : B' ≤ B) : w.ownsRow B' e size v n xs := by
  obtain ⟨h1, h2⟩ := h
  refine ⟨h1, ?_⟩
  rcases h2 with h2 | ⟨g, cap, cur, hv, hg, r⟩
  · exact .inl h2
  · exact .inr ⟨g, cap, cur, hv, by omega, r⟩
theorem rows_grew {w w' : World} {B : Nat} {e : TypeId} {size : Nat} {v : Value} {n : Nat} {xs : List Value} (h : w.ownsRow B e size v n xs) (hg : Grew w w') : w'.ownsRow B e size v n xs := Moved.owns (Moved.of_grew (S := fun _ => False) hg) h (fun _ _ h => h)
/-- A row of nodes of one's own. -/
def OwnN (w : World) (B : Nat) (v : Value) (vs : List Value) : Prop := w.ownsRow B 26 6 v vs.length (vs.flatMap cells6) ∧ ∀ x ∈ vs, Node6 x
/-- A row of strings of one's own. -/
def OwnS (w : World) (B : Nat) (v : Value) (ss : List ByteArray) : Prop := w.ownsRow B 9 1 v ss.length (ss.map Value.string)
theorem OwnN.nil (w : World) (B : Nat) : OwnN w B (.slice none 0 0) [] := ⟨World.ownsRow_nil _ _ _ _, by simp⟩
theorem OwnS.nil (w : World) (B : Nat) : OwnS w B (.slice none 0 0) [] := World.ownsRow_nil _ _ _ _
theorem OwnN.grew {w w' : World} {B : Nat} {v : Value} {vs : List Value} (h : OwnN w B v vs) (hg : Grew w w') : OwnN w' B v vs := ⟨rows_grew h.1 hg, h.2⟩
theorem OwnS.grew {w w' : World} {B : Nat} {v : Value} {ss : List ByteArray} (h : OwnS w B v ss) (hg : Grew w w') : OwnS w' B v ss := rows_grew h hg
theorem add0 (g j : Nat) : (⟨g, 0, none⟩ : Addr).add j = ⟨g, 0 + j, none⟩ := add_off _ g 0 j rfl
theorem OwnS.strs {w : World} {B : Nat} {v : Value} {ss : List ByteArray} (h : OwnS w B v ss) (hz : ∀ s ∈ ss, lenok s.size) : StrsAt w v ss := by
  obtain ⟨a, c, rfl, h1, h2, h3⟩ := rows_form h
  refine ⟨a, c, rfl, h1, h2, h3, fun i s hs => ⟨hz s (List.mem_of_getElem? hs), ?_⟩⟩
  rcases h.2 with ⟨e, hn⟩ | ⟨g, cap, cur, e, _⟩
  · have : ss = [] := List.length_eq_zero_iff.1 hn
    subst this; simp at hs
  · cases e
    have := World.ownsRow.cells h (g := g) rfl i (.string s) (by simp [hs])
    rw [add0] at this
    exact ⟨g, 0, rfl, this⟩
theorem flat6_get {vs : List Value} (h6 : ∀ x ∈ vs, Node6 x) {i : Nat} {x : Value} (hx : vs[i]? = some x) (j : Nat) (hj : j < 6) : (vs.flatMap cells6)[i * 6 + j]? = (cells6 x)[j]? := by
  induction vs generalizing i with
  | nil => simp at hx
  | cons y r ih =>
    have hy := cells6_length (h6 y (by simp))
    rw [List.flatMap_cons]
    cases i with
    | zero =>
      simp at hx; subst hx
      rw [List.getElem?_append_left (by omega)]
      simp
    | succ i =>
      rw [List.getElem?_append_right (by omega), hy, show (i + 1) * 6 + j - 6 = i * 6 + j by omega]
      exact ih (fun x hx => h6 x (by simp [hx])) (by simpa using hx)
theorem OwnN.rows {w : World} {B : Nat} {v : Value} {vs : List Value} (h : OwnN w B v vs) : RowsAt w v vs := by
  obtain ⟨hr, h6⟩ := h
  obtain ⟨a, c, rfl, h1, h2, h3⟩ := rows_form hr
  refine ⟨a, c, rfl, h1, h2, h3, fun i x hx => ?_⟩
  rcases hr.2 with ⟨e, hn⟩ | ⟨g, cap, cur, e, _⟩
  · have : vs = [] := List.length_eq_zero_iff.1 hn
    subst this; simp at hx
  · cases e
    have hc := World.ownsRow.cells hr (g := g) rfl
    have hf := flat6_get h6 hx
    obtain ⟨k, n, u, s, a4, n4, c4, a5, n5, c5, rfl⟩ := h6 x (List.mem_of_getElem? hx)
    have q := fun j hj u (hu : (cells6 _)[j]? = some u) => hc (i * 6 + j) u ((hf j hj).trans hu)
    have q0 := q 0 (by omega) _ rfl
    have q1 := q 1 (by omega) _ rfl
    have q2 := q 2 (by omega) _ rfl
    have q3 := q 3 (by omega) _ rfl
    have q4 := q 4 (by omega) _ rfl
    have q5 := q 5 (by omega) _ rfl
    rw [add0] at q0 q1 q2 q3 q4 q5
    exact ⟨g, 0, rfl, _, _, _, _, _, _, rfl, q0, by simpa [Nat.add_assoc] using q1, by simpa [Nat.add_assoc] using q2, by simpa [Nat.add_assoc] using q3, by simpa [Nat.add_assoc] using q4, by simpa [Nat.add_assoc] using q5⟩
/-- One node's cells as a block. -/
def rowN (v : Value) : Obj := .cells (cells6 v).toArray 26 (0, 0)
theorem wpList_appendN {ops : Array Oper} {rest : List Oper} {o : Oper} {a : Act} {w : World} {Q : Exit → Act → World → Prop} (hgd : o.guard = none) (s x : Operand)
    (ho : o.op = .call { callee := .builtin .append, args := #[s, x], argTypes := #[24, 24] }) (B : Nat) (v : Value) (vs : List Value) (hs : a.eval s = v) (hown : OwnN w B v vs)
    (g c : Nat) (y : Value) (hx : a.eval x = .slice (some ⟨g, 0, none⟩) 1 c) (hg : w.heap[g]? = some (rowN y)) (h6 : Node6 y) (hlen : vs.length + 1 ≤ 1048576) (hB : B ≤ w.heap.size)
    (h : ∀ v' w', OwnN w' B v' (vs ++ [y]) → w.grownBy w' v.ownBlock → Next w v.ownBlock v'.ownBlock → wpList Try.prog ops Q rest (a.put o.dst v') w') : wpList Try.prog ops Q (o :: rest) a w := by
  obtain ⟨i0, hi, hz0, hz1, hz2⟩ := node_parts
  have hnews : ∀ j u, (cells6 y)[j]? = some u → w.cell? ((⟨g, 0, none⟩ : Addr).add j) = some u := by
    intro j u hj
    rw [add0, cell_of_row w g (0 + j) _ _ _ hg]
    simpa using hj
  obtain ⟨v', w', hr, h2, h3, h4⟩ := append_next (P := Try.prog) w B 24 o.type 26 i0 zeroNode 6 88 Try.underlying24 hi hz0 hz1 hz2 rfl (by decide) v vs.length _ hown.1 ⟨g, 0, none⟩ 1 c (cells6 y) (by rw [cells6_length h6]) hnews (cells6_one h6) (by unfold maxLen; omega) (by omega) hB
  refine wpList_plain hgd fun _ hK => Lib.wp_append_run w s x 24 24 ho v _ hs hx v' w' hr (hK _ _ (h v' w' ⟨?_, ?_⟩ h3 h4))
  · rw [List.length_append, List.flatMap_append]
    simpa using h2
  · intro x hx
    rcases List.mem_append.1 hx with hx | hx
    · exact hown.2 x hx
    · simp at hx; subst hx; exact h6
theorem wpList_appendS {ops : Array Oper} {rest : List Oper} {o : Oper} {a : Act} {w : World} {Q : Exit → Act → World → Prop} (hgd : o.guard = none) (s x : Operand)
    (ho : o.op = .call { callee := .builtin .append, args := #[s, x], argTypes := #[23, 23] }) (B : Nat) (v : Value) (ss : List ByteArray) (hs : a.eval s = v) (hown : OwnS w B v ss)
    (sv : Value) (l2 : List ByteArray) (hx : a.eval x = sv) (hsv : StrsAt w sv l2) (hlen : ss.length + l2.length ≤ 1099511627776) (hB : B ≤ w.heap.size)
    (h : ∀ v' w', OwnS w' B v' (ss ++ l2) → w.grownBy w' v.ownBlock → Next w v.ownBlock v'.ownBlock → wpList Try.prog ops Q rest (a.put o.dst v') w') : wpList Try.prog ops Q (o :: rest) a w := by
  obtain ⟨i0, hi, hz0, hz1, hz2⟩ := str_parts
  obtain ⟨sa, cap, rfl, _, _, hnil, hc⟩ := hsv
  cases sa with
  | none =>
    have h0 : l2 = [] := by
      cases l2 with
      | nil => rfl
      | cons y r => obtain ⟨_, b, off, e, _⟩ := hc 0 y rfl; cases e
    subst h0
    have := hnil rfl
    subst this
    refine wpList_append_own_none hgd s x 23 ho B 9 i0 1 Try.underlying23 hi v ss.length _ hs hown hx ?_
    exact h v w (by rw [List.append_nil]; exact hown) ⟨rfl, rfl, rfl, Nat.le_refl _, fun _ _ _ => rfl⟩ (Next.refl _ _)
  | some ad =>
    have hnews : ∀ j u, (l2.map Value.string)[j]? = some u → w.cell? (ad.add j) = some u := by
      intro j u hj
      rw [List.getElem?_map] at hj
      cases hq : l2[j]? with
      | none => rw [hq] at hj; cases hj
      | some s =>
        rw [hq] at hj
        obtain ⟨_, b, off, e, hcell⟩ := hc j s hq
        cases e
        simp at hj
        subst hj
        rw [add_off _ b off j rfl]
        exact hcell
    obtain ⟨v', w', hr, h2, h3, h4⟩ := append_next (P := Try.prog) w B 23 o.type 9 i0 (.string ⟨#[]⟩) 1 16 Try.underlying23 hi hz0 hz1 hz2 rfl (by decide) v ss.length _ hown ad l2.length cap (l2.map Value.string) (by simp) hnews (by intro u hu; obtain ⟨s, _, rfl⟩ := List.mem_map.1 hu; rfl) (by unfold maxLen; omega) (by omega) hB
    refine wpList_plain hgd fun _ hK => Lib.wp_append_run w s x 23 23 ho v _ hs hx v' w' hr (hK _ _ (h v' w' ?_ h3 h4))
    unfold OwnS
    rw [List.length_append, List.map_append]
    exact h2
/-- An append to a row made here leaves what was there. -/
theorem grew_row {w wr w' : World} {e : TypeId} {size : Nat} {v : Value} {n : Nat} {xs : List Value} (h : wr.ownsRow w.heap.size e size v n xs) (hg : Grew w wr) (hgr : wr.grownBy w' v.ownBlock) : Grew w w' := by
  have hgr2 : Moved (fun k => some k = v.ownBlock) wr w' := Moved.of_grown hgr
  refine ⟨hgr2.os.trans hg.os, hgr2.tape.trans hg.tape, hgr2.output.trans hg.output, Nat.le_trans hg.size hgr2.size, fun k hk => ?_⟩
  refine (hgr2.block k (Nat.lt_of_lt_of_le hk hg.size) fun e => ?_).trans (hg.block k hk)
  rcases h.2 with ⟨rfl, hn⟩ | ⟨g, cap, cur, rfl, hb, _, _⟩
  · cases e
  · have : k = g := by injection e
    omega
theorem strs_new (w : World) (s : ByteArray) (hs : lenok s.size) : StrsAt (w.alloc (.cells #[.string s] 9)) (.slice (some ⟨w.heap.size, 0, none⟩) 1 1) [s] := by
  have h := heap_alloc_new w (.cells #[.string s] 9)
  refine ⟨_, 1, rfl, by simp, by unfold lenok; omega, (fun h => by cases h), fun i y hy => ?_⟩
  have hi : i = 0 := by have := (List.getElem?_eq_some_iff.1 hy).1; simp at this; omega
  subst hi
  simp at hy
  subst hy
  exact ⟨hs, _, _, rfl, row_cellT h 0 _ rfl⟩

/-! ### strings -/
/-- The first m bytes. -/
def shortS (s : ByteArray) (m : Nat) : ByteArray := s.extract 0 (min s.size m)
theorem shortS_size (s : ByteArray) (m : Nat) : (shortS s m).size = min s.size m := by simp [shortS]
theorem copytexts_any (w : World) (v : Value) (l : List ByteArray) (h : StrsAt w v l) (hl : l.length ≤ 1099511627776) :
    Calls Try.prog 40 #[v] w fun r w' => ∃ v', r = .returned v' ∧ OwnS w' w.heap.size v' l ∧ Grew w w' := by
  have HX := Lib.hid h
  obtain ⟨a, c, rfl, _, _, hnil, _⟩ := h
  have hown : Hid (OwnS w w.heap.size (.slice none 0 0) []) := OwnS.nil _ _
  go_enter Try.func40, Try.ntmps40
  go_wp2_with (at_builtin; refine wpList_appendS rfl _ _ rfl w.heap.size (.slice none 0 0) [] rfl hown.out _ l rfl HX.out (by simp; omega) (Nat.le_refl _) ?_; intro v' w3 hown2 hgr hqq; obtain ⟨va2, vc2, rfl, _, _, _⟩ := rows_form hown2; have HO := Lib.hid (And.intro hown2 hgr); clear hown2 hgr hqq)
  go_ret
  refine ⟨_, rfl, by simpa using HO.out.1, ?_⟩
  exact (Below.refl w.heap.size w).grown HO.out.2 (Nat.le_refl _) (fun k hk => by cases hk)
theorem min_nat (a b : Nat) : min (a : Int) (b : Int) = ((min a b : Nat) : Int) := by omega
theorem short_any' (w : World) (s : ByteArray) (m : Nat) (hs : lenok s.size) (hm : m ≤ 1000) :
    Calls Try.prog 63 #[.string s, .int .i64 m] w fun r w' => r = .returned (.string (shortS s m)) ∧ w = w' := by
  unfold lenok at hs
  have h1 : min (s.size : Int) (m : Int) = ((min s.size m : Nat) : Int) := min_nat _ _
  obtain ⟨k, hk⟩ : ∃ k : Nat, min s.size m = k := ⟨_, rfl⟩
  rw [hk] at h1
  have hks : k ≤ s.size := by omega
  have hki : (k : Int) ≤ s.size := by omega
  have HK := Lib.hid hk
  clear hk
  go_enter Try.func63, Try.ntmps63
  go_wp2
  · go_ret
    exact ⟨by rw [shortS, HK.out, show m = k by have := HK.out; omega]; rfl, rfl⟩
  · go_ret
    exact ⟨by rw [shortS, HK.out, show k = s.size by have := HK.out; omega]; simp, rfl⟩
end Go.Proofs.Ytfbeepkogcmlmaa

/-
  Trees of one's own; shortening and copying lists of strings.
-/
namespace Go.Proofs.Ytfbeepkogcmlmaa
open Go Go.ChangeShapes Go.WideShapes Go.ChangeAt Go.RowKit Go.Joins Go.Deep
set_option linter.unusedVariables false
set_option linter.unusedSimpArgs false

mutual
/-- The tree's slices lie in rows of one's own, in blocks of S, no block twice. -/
def OwnT (w : World) (B : Nat) : Tr → Value → (Nat → Prop) → Prop
  | .mk k n u s keys l, v, S => (i64ok k ∧ i64ok n ∧ u64ok u ∧ lenok s.size ∧ ∀ x ∈ keys, lenok x.size) ∧ ∃ kv lv vs S', v = .agg #[.int .i64 k, .int .i64 n, .int .u64 u, .string s, kv, lv] ∧
      OwnS w B kv keys ∧ OwnN w B lv vs ∧
      (∀ g, kv.ownBlock = some g → S g ∧ ¬ S' g) ∧ (∀ g, lv.ownBlock = some g → S g ∧ ¬ S' g) ∧ (∀ g, kv.ownBlock = some g → lv.ownBlock ≠ some g) ∧ (∀ g, S' g → S g) ∧ KidsO w B l vs S'
def KidsO (w : World) (B : Nat) : List Tr → List Value → (Nat → Prop) → Prop
  | [], vs, _ => vs = []
  | t :: r, vs, S => ∃ v vr S1 S2, vs = v :: vr ∧ (∀ g, S1 g → S g) ∧ (∀ g, S2 g → S g) ∧ (∀ g, S1 g → ¬ S2 g) ∧ OwnT w B t v S1 ∧ KidsO w B r vr S2
end
mutual
theorem OwnT.kept {w w' : World} {B : Nat} {R : Nat → Prop} (hm : Moved R w w') : ∀ {t : Tr} {v : Value} {S : Nat → Prop}, OwnT w B t v S → (∀ g, S g → ¬ R g) → OwnT w' B t v S
  | .mk k n u s keys l, v, S, ⟨hb, kv, lv, vs, S', e, h1, h2, h3, h4, h5, h6, h7⟩, hd =>
    ⟨hb, kv, lv, vs, S', e, Moved.owns hm h1 (fun g hg => hd g (h3 g hg).1), ⟨Moved.owns hm h2.1 (fun g hg => hd g (h4 g hg).1), h2.2⟩, h3, h4, h5, h6, KidsO.kept hm h7 (fun g hg => hd g (h6 g hg))⟩
theorem KidsO.kept {w w' : World} {B : Nat} {R : Nat → Prop} (hm : Moved R w w') : ∀ {l : List Tr} {vs : List Value} {S : Nat → Prop}, KidsO w B l vs S → (∀ g, S g → ¬ R g) → KidsO w' B l vs S
  | [], _, _, h, _ => h
  | t :: r, _, S, ⟨v, vr, S1, S2, e, h1, h2, h3, h4, h5⟩, hd => ⟨v, vr, S1, S2, e, h1, h2, h3, OwnT.kept hm h4 (fun g hg => hd g (h1 g hg)), KidsO.kept hm h5 (fun g hg => hd g (h2 g hg))⟩
end
section
variable {w w' : World} {B : Nat} {v : Value} {vs : List Value} {t : Tr} {l : List Tr} {S T : Nat → Prop}
theorem OwnT.grew (h : OwnT w B t v S) (hg : Grew w w') : OwnT w' B t v S := h.kept (Moved.of_grew (S := fun _ => False) hg) (fun _ _ h => h)
theorem KidsO.grew (h : KidsO w B l vs S) (hg : Grew w w') : KidsO w' B l vs S := h.kept (Moved.of_grew (S := fun _ => False) hg) (fun _ _ h => h)
theorem OwnT.mono (h : OwnT w B t v S) (hS : ∀ g, S g → T g) : OwnT w B t v T := by
  cases t
  simp only [OwnT] at h ⊢
  obtain ⟨hb, kv, lv, vs, S', e, h1, h2, h3, h4, h5, h6, h7⟩ := h
  exact ⟨hb, kv, lv, vs, S', e, h1, h2, fun g hg => ⟨hS g (h3 g hg).1, (h3 g hg).2⟩, fun g hg => ⟨hS g (h4 g hg).1, (h4 g hg).2⟩, h5, fun g hg => hS g (h6 g hg), h7⟩
theorem KidsO.mono (h : KidsO w B l vs S) (hS : ∀ g, S g → T g) : KidsO w B l vs T := by
  cases l with
  | nil => exact h
  | cons t r =>
    simp only [KidsO] at h ⊢
    obtain ⟨v, vr, S1, S2, e, h1, h2, h3, h4, h5⟩ := h
    exact ⟨v, vr, S1, S2, e, fun g hg => hS g (h1 g hg), fun g hg => hS g (h2 g hg), h3, h4, h5⟩
theorem OwnT.node6 (h : OwnT w B t v S) : Node6 v := by
  cases t
  simp only [OwnT] at h
  obtain ⟨_, kv, lv, vs, S', rfl, h1, h2, _⟩ := h
  obtain ⟨a4, c4, rfl, _⟩ := rows_form h1
  obtain ⟨a5, c5, rfl, _⟩ := rows_form h2.1
  exact ⟨_, _, _, _, _, _, _, _, _, _, rfl⟩
mutual
theorem OwnT.node {w : World} {B : Nat} : ∀ {t : Tr} {v : Value} {S : Nat → Prop}, OwnT w B t v S → NodeAt w t v
  | .mk k n u s keys l, v, S, ⟨hb, kv, lv, vs, S', e, h1, h2, _, _, _, _, h7⟩ => ⟨⟨hb.1, hb.2.1, hb.2.2.1, hb.2.2.2.1⟩, kv, lv, vs, e, h1.strs hb.2.2.2.2, h2.rows, KidsO.kids h7⟩
theorem KidsO.kids {w : World} {B : Nat} : ∀ {l : List Tr} {vs : List Value} {S : Nat → Prop}, KidsO w B l vs S → KidsAt w l vs
  | [], _, _, h => h
  | t :: r, _, S, ⟨v, vr, S1, S2, e, _, _, _, h4, h5⟩ => ⟨v, vr, e, OwnT.node h4, KidsO.kids h5⟩
end
theorem KidsO.length (h : KidsO w B l vs S) : vs.length = l.length := h.kids.length
theorem KidsO.app {l2 : List Tr} {vs2 : List Value} (h : KidsO w B l vs S) (h2 : KidsO w B l2 vs2 T) (hd : ∀ g, S g → ¬ T g) : KidsO w B (l ++ l2) (vs ++ vs2) (fun g => S g ∨ T g) := by
  induction l generalizing vs S with
  | nil => simp only [KidsO] at h; subst h; exact h2.mono (fun g => .inr)
  | cons t r ih =>
    simp only [KidsO] at h
    obtain ⟨v, vr, S1, S2, rfl, h1, h2', h3, h4, h5⟩ := h
    simp only [List.cons_append, KidsO]
    exact ⟨v, vr ++ vs2, S1, fun g => S2 g ∨ T g, rfl, fun g hg => .inl (h1 g hg), fun g hg => hg.imp (h2' g) id, fun g hg hh => hh.elim (h3 g hg) (hd g (h1 g hg)), h4, ih h5 (fun g hg => hd g (h2' g hg))⟩
theorem KidsO.one (h : OwnT w B t v S) : KidsO w B [t] [v] S := by
  simp only [KidsO]
  exact ⟨v, [], S, fun _ => False, rfl, fun _ h => h, fun _ h => h.elim, fun _ _ h => h, h, rfl⟩
theorem KidsO.split {l2 : List Tr} (h : KidsO w B (l ++ l2) vs S) : ∃ vs1 vs2 S1 S2, vs = vs1 ++ vs2 ∧ vs1.length = l.length ∧ (∀ g, S1 g → S g) ∧ (∀ g, S2 g → S g) ∧ (∀ g, S1 g → ¬ S2 g) ∧ KidsO w B l vs1 S1 ∧ KidsO w B l2 vs2 S2 := by
  induction l generalizing vs S with
  | nil => exact ⟨[], vs, fun _ => False, S, rfl, rfl, fun _ h => h.elim, fun _ h => h, fun _ h => h.elim, rfl, h⟩
  | cons t r ih =>
    simp only [List.cons_append, KidsO] at h
    obtain ⟨v, vr, S1, S2, rfl, h1, h2, h3, h4, h5⟩ := h
    obtain ⟨vs1, vs2, T1, T2, rfl, hl, g1, g2, g3, g4, g5⟩ := ih h5
    refine ⟨v :: vs1, vs2, fun g => S1 g ∨ T1 g, T2, rfl, by simp [hl], fun g hg => hg.elim (h1 g) (fun hg => h2 g (g1 g hg)), fun g hg => h2 g (g2 g hg), fun g hg => hg.elim (fun hg hh => h3 g hg (g2 g hh)) (g3 g), ?_, g5⟩
    simp only [KidsO]
    exact ⟨v, vs1, S1, T1, rfl, fun g hg => .inl hg, fun g hg => .inr hg, fun g hg hh => h3 g hg (g1 g hh), h4, g4⟩
end
/-- The blocks made from w to w'. -/
def Fresh (w w' : World) (g : Nat) : Prop := w.heap.size ≤ g ∧ g < w'.heap.size
mutual
theorem OwnT.base {w : World} {B B' : Nat} (hb : B' ≤ B) : ∀ {t : Tr} {v : Value} {S : Nat → Prop}, OwnT w B t v S → OwnT w B' t v S
  | .mk k n u s keys l, v, S, ⟨hb0, kv, lv, vs, S', e, h1, h2, h3, h4, h5, h6, h7⟩ => ⟨hb0, kv, lv, vs, S', e, rows_base h1 hb, ⟨rows_base h2.1 hb, h2.2⟩, h3, h4, h5, h6, KidsO.base hb h7⟩
theorem KidsO.base {w : World} {B B' : Nat} (hb : B' ≤ B) : ∀ {l : List Tr} {vs : List Value} {S : Nat → Prop}, KidsO w B l vs S → KidsO w B' l vs S
  | [], _, _, h => h
  | t :: r, _, S, ⟨v, vr, S1, S2, e, h1, h2, h3, h4, h5⟩ => ⟨v, vr, S1, S2, e, h1, h2, h3, OwnT.base hb h4, KidsO.base hb h5⟩
end

/-! ### lists of strings -/
def textsS (l : List ByteArray) (many long : Nat) : List ByteArray := (l.take many).map (shortS · long)
theorem textsS_snoc {l : List ByteArray} {k : Nat} {s : ByteArray} (h : l[k]? = some s) {many : Nat} (hk : k < many) (long : Nat) : textsS (l.take k) many long ++ [shortS s long] = textsS (l.take (k + 1)) many long := by
  obtain ⟨hl, hs⟩ := List.getElem?_eq_some_iff.1 h
  unfold textsS
  rw [List.take_take, List.take_take, Nat.min_eq_right (by omega : k ≤ many), Nat.min_eq_right (by omega : k + 1 ≤ many), List.take_succ_eq_append_getElem hl, List.map_append, hs]
  rfl
theorem textsS_all (l : List ByteArray) (many long : Nat) : textsS (l.take many) many long = textsS l many long := by simp [textsS, List.take_take]
theorem textsS_length (l : List ByteArray) (many long : Nat) : (textsS l many long).length = min many l.length := by simp [textsS]
set_option maxRecDepth 100000 in
set_option maxHeartbeats 1000000 in
theorem texts_any (many long : Nat) (v : Value) (l : List ByteArray) (w : World) (h : StrsAt w v l) (hm : many ≤ 1000) (hlg : long ≤ 1000) :
    Calls Try.prog 64 #[v, .int .i64 many, .int .i64 long] w fun r w' => ∃ v', r = .returned v' ∧ OwnS w' w.heap.size v' (textsS l many long) ∧ Grew w w' := by
  obtain ⟨ad, c, rfl, hlc, hcm, _, hcell⟩ := h
  have HC := Lib.hid hcell
  have hl : l.length ≤ 9223372036854775807 := by unfold lenok at hcm; omega
  clear hcell hcm
  go_enter Try.func64, Try.ntmps64
  go_wp2_with fail
  go_loopw [7, 8] (fun v i wr => ∃ k : Nat, k ≤ l.length ∧ k ≤ many ∧ i = .int .i64 k ∧ Hid (OwnS wr w.heap.size v (textsS (l.take k) many long) ∧ Grew w wr)) (fun _ i _ => l.length - (intOf i).toNat)
  case atStart => exact ⟨0, Nat.zero_le _, by omega, rfl, by
    show _ ∧ _
    exact ⟨by simpa [textsS] using OwnS.nil _ _, Grew.refl _⟩⟩
  case round =>
    obtain ⟨k, hk, hk2, rfl, HW⟩ := hrel
    by_cases hlt : k < l.length
    · by_cases h3 : k < many
      · obtain ⟨x, hx⟩ : ∃ x, l[k]? = some x := ⟨_, List.getElem?_eq_getElem hlt⟩
        have HSN := Lib.hid (textsS_snoc hx h3 long)
        obtain ⟨hz, b, off, rfl, c0⟩ := HC.out k x hx
        have HZ := Lib.hid hz
        clear hx hz
        have d0 := HW.out.2.cell c0
        clear c0
        have h3i : (k : Int) < many := by omega
        go_wp2_with fail
        refine (short_any' wr x long HZ.out hlg).mono ?_
        rintro r w2 ⟨rfl, rfl⟩
        have HO := Lib.hid HW.out.1
        have HG := Lib.hid HW.out.2
        obtain ⟨va, vc, rfl, _, _, _⟩ := rows_form HO.out
        have HLN : Hid ((textsS (l.take k) many long).length ≤ 1000) := by show _ ≤ _; rw [textsS_length]; omega
        have hzs : Hid (lenok (shortS x long).size) := by show lenok _; have := HZ.out; unfold lenok at *; rw [shortS_size]; omega
        generalize textsS (l.take k) many long = L at *
        generalize shortS x long = X at *
        clear HW
        have HO2 : Hid (∀ o, OwnS (wr.alloc o) w.heap.size (.slice va L.length vc) L) := fun o => HO.out.grew ((Grew.refl _).alloc o)
        go_wp2_with (at_builtin; refine wpList_appendS rfl _ _ rfl w.heap.size (.slice va L.length vc) L rfl (HO2.out _) _ [X] rfl (strs_new _ _ hzs.out) (by have := HLN.out; simp; omega) (Nat.le_trans HG.out.size (by simp)) ?_; intro v' w3 hown hgr hqq; obtain ⟨va2, vc2, rfl, _, _, _⟩ := rows_form hown; have HG3 := Lib.hid (And.intro hown (grew_row (HO2.out _) (HG.out.alloc _) hgr)); clear hown hgr hqq)
        go_roundw
        case rel =>
          refine ⟨k + 1, by omega, by omega, by go_num, ?_⟩
          show _ ∧ _
          rw [← HSN.out]
          have hh := HG3.out
          rw [List.length_append] at hh
          exact hh
        case measure => simp [intOf]; omega
      · have ek : k = many := by omega
        subst ek
        have hw := HW.out
        have HE : Hid (OwnS wr w.heap.size u7 (textsS l k long) ∧ Grew w wr) := by
          show _ ∧ _
          rw [textsS_all] at hw
          exact hw
        clear hw HW
        go_wp2
        go_ret
        exact ⟨_, rfl, HE.out⟩
    · have ek : k = l.length := by omega
      subst ek
      have hw := HW.out
      have HE : Hid (OwnS wr w.heap.size u7 (textsS l many long) ∧ Grew w wr) := by
        show _ ∧ _
        rw [List.take_length] at hw
        exact hw
      clear hw HW
      go_wp2
      all_goals
        go_ret
        exact ⟨_, rfl, HE.out⟩
end Go.Proofs.Ytfbeepkogcmlmaa

/-
  Trees: shortening a tree, plain; children collected into a row of one's own.
-/
namespace Go.Proofs.Ytfbeepkogcmlmaa
open Go Go.ChangeShapes Go.WideShapes Go.ChangeAt Go.RowKit Go.Joins Go.Deep
set_option linter.unusedVariables false
set_option linter.unusedSimpArgs false

mutual
def cutTr (long : Nat) : Nat → Tr → Tr × Nat
  | left, .mk k n u s keys l => (.mk k n u (shortS s long) (textsS keys 64 long) (cutTrs long left l).1, (cutTrs long left l).2)
def cutTrs (long : Nat) : Nat → List Tr → List Tr × Nat
  | left, [] => ([], left)
  | left, t :: r => if left = 0 then ([], 0) else ((cutTr long (left - 1) t).1 :: (cutTrs long (cutTr long (left - 1) t).2 r).1, (cutTrs long (cutTr long (left - 1) t).2 r).2)
end
theorem cutTrs_snoc (long : Nat) (l : List Tr) (t : Tr) : ∀ left, cutTrs long left (l ++ [t]) =
    if (cutTrs long left l).2 = 0 then cutTrs long left l else ((cutTrs long left l).1 ++ [(cutTr long ((cutTrs long left l).2 - 1) t).1], (cutTr long ((cutTrs long left l).2 - 1) t).2) := by
  induction l with
  | nil => intro left; by_cases h : left = 0 <;> simp [cutTrs, h]
  | cons x r ih =>
    intro left
    rw [List.cons_append, cutTrs, cutTrs]
    by_cases h : left = 0
    · simp [h]
    · rw [if_neg h, if_neg h, ih]
      by_cases h2 : (cutTrs long (cutTr long (left - 1) x).2 r).2 = 0
      · rw [if_pos h2, if_pos h2]
      · rw [if_neg h2, if_neg h2]
        simp
theorem cutTrs_stop (long : Nat) (l r : List Tr) (left : Nat) (h : (cutTrs long left l).2 = 0) : cutTrs long left (l ++ r) = cutTrs long left l := by
  induction r generalizing l with
  | nil => simp
  | cons x r ih =>
    have e : l ++ x :: r = (l ++ [x]) ++ r := by simp
    have h2 : cutTrs long left (l ++ [x]) = cutTrs long left l := by rw [cutTrs_snoc, if_pos h]
    rw [e, ih (l ++ [x]) (by rw [h2]; exact h), h2]
mutual
theorem cutTr_size (long : Nat) : ∀ (t : Tr) (left : Nat), (cutTr long left t).1.size + (cutTr long left t).2 ≤ left + 1
  | .mk k n u s keys l, left => by
    have := cutTrs_size long l left
    simp only [cutTr, Tr.size]
    omega
theorem cutTrs_size (long : Nat) : ∀ (l : List Tr) (left : Nat), sizeL (cutTrs long left l).1 + (cutTrs long left l).2 ≤ left
  | [], left => by simp [cutTrs, sizeL]
  | t :: r, left => by
    rw [cutTrs]
    by_cases h : left = 0
    · simp [h, sizeL]
    · rw [if_neg h]
      have h1 := cutTr_size long t (left - 1)
      have h2 := cutTrs_size long r (cutTr long (left - 1) t).2
      simp only [sizeL]
      omega
end

/-- Children collected since W: the row and the trees in it, in new blocks. -/
def Grow (R : Nat → Prop) (W w : World) (v : Value) (ts : List Tr) : Prop :=
  ∃ vs S, OwnN w W.heap.size v vs ∧ KidsO w W.heap.size ts vs S ∧ (∀ g, S g → W.heap.size ≤ g ∧ g < w.heap.size ∧ v.ownBlock ≠ some g) ∧ Moved R W w
theorem Grow.start (R : Nat → Prop) (W : World) : Grow R W W (.slice none 0 0) [] :=
  ⟨[], fun _ => False, OwnN.nil _ _, rfl, fun _ h => h.elim, Moved.refl _ _⟩
theorem Grow.form {R : Nat → Prop} {W w : World} {v : Value} {ts : List Tr} (h : Grow R W w v ts) : ∃ a c, v = .slice a ts.length c ∧ ts.length ≤ c ∧ lenok c ∧ (a = none → c = 0) := by
  obtain ⟨vs, S, h1, h2, _⟩ := h
  have := rows_form h1.1
  rwa [h2.length] at this
theorem Grow.step {R : Nat → Prop} {W wr w2 w3 : World} {v v' xv : Value} {ts : List Tr} {x : Tr} (hR : ∀ g, R g → g < W.heap.size) (vs : List Value) (S : Nat → Prop) (h2 : KidsO wr W.heap.size ts vs S) (h1 : OwnN wr W.heap.size v vs)
    (h3 : ∀ g, S g → W.heap.size ≤ g ∧ g < wr.heap.size ∧ v.ownBlock ≠ some g) (h4 : Moved R W wr)
    (hx : OwnT w2 wr.heap.size x xv (Fresh wr w2)) (hm : Moved R wr w2) (o : Obj) (hown : OwnN w3 W.heap.size v' (vs ++ [xv])) (hgr : (w2.alloc o).grownBy w3 v.ownBlock) (hn : Next (w2.alloc o) v.ownBlock v'.ownBlock) : Grow R W w3 v' (ts ++ [x]) := by
  have hm3 : Moved (fun k => some k = v.ownBlock) (w2.alloc o) w3 := Moved.of_grown hgr
  have hga : Grew w2 (w2.alloc o) := (Grew.refl w2).alloc o
  have hlt : ∀ g, v.ownBlock = some g → W.heap.size ≤ g ∧ g < wr.heap.size := fun g hg => World.ownsRow.lt h1.1 g hg
  have hs2 : wr.heap.size ≤ w2.heap.size := hm.size
  have hs3 : w2.heap.size ≤ (w2.alloc o).heap.size := hga.size
  have hs4 : (w2.alloc o).heap.size ≤ w3.heap.size := hm3.size
  have hWr : W.heap.size ≤ wr.heap.size := h4.size
  have k1 : KidsO w3 W.heap.size ts vs S := ((h2.kept hm (fun g hg hr => by have := (h3 g hg).1; have := hR g hr; omega)).grew hga).kept hm3 (fun g hg e => (h3 g hg).2.2 e.symm)
  have k2 : OwnT w3 W.heap.size x xv (Fresh wr w2) := ((hx.grew hga).kept hm3 (fun g hg e => by have := hlt g e.symm; have := hg.1; omega)).base hWr
  refine ⟨vs ++ [xv], fun g => S g ∨ Fresh wr w2 g, hown, k1.app (KidsO.one k2) (fun g hg hh => by have := (h3 g hg).2.1; have := hh.1; omega), fun g hg => ?_, ?_⟩
  · have hb : W.heap.size ≤ g ∧ g < w2.heap.size := by
      rcases hg with hg | hg
      · have := h3 g hg; omega
      · exact ⟨Nat.le_trans hWr hg.1, hg.2⟩
    refine ⟨hb.1, by omega, fun e => ?_⟩
    rcases hn g e with e | e
    · rcases hg with hg | hg
      · exact (h3 g hg).2.2 e
      · have := hlt g e; have := hg.1; omega
    · omega
  · exact ((h4.trans' hm).grew hga).trans hm3 fun j hj e => by have := hlt j e.symm; omega
/-- A tree out of what was collected. -/
theorem Grow.tree {R : Nat → Prop} {w0 W w : World} {v kv : Value} {ts : List Tr} {k n u : Int} {s : ByteArray} {keys : List ByteArray} (h : Grow R W w v ts) (hb : i64ok k ∧ i64ok n ∧ u64ok u ∧ lenok s.size ∧ ∀ x ∈ keys, lenok x.size)
    (h0 : w0.heap.size ≤ W.heap.size) (hk : OwnS w w0.heap.size kv keys) (hkW : ∀ g, kv.ownBlock = some g → g < W.heap.size) :
    OwnT w w0.heap.size (.mk k n u s keys ts) (.agg #[.int .i64 k, .int .i64 n, .int .u64 u, .string s, kv, v]) (Fresh w0 w) := by
  obtain ⟨vs, S, h1, h2, h3, h4⟩ := h
  simp only [OwnT]
  refine ⟨hb, kv, v, vs, S, rfl, hk, ⟨rows_base h1.1 h0, h1.2⟩, fun g hg => ⟨?_, fun hs => ?_⟩, fun g hg => ⟨?_, fun hs => (h3 g hs).2.2 hg⟩, fun g hg hg2 => ?_, fun g hg => ?_, h2.base h0⟩
  · have := World.ownsRow.lt hk g hg; exact ⟨this.1, this.2⟩
  · have := (h3 g hs).1; have := hkW g hg; omega
  · have := World.ownsRow.lt h1.1 g hg; exact ⟨by omega, this.2⟩
  · have := World.ownsRow.lt h1.1 g hg2; have := hkW g hg; omega
  · have := h3 g hg; exact ⟨by omega, this.2.1⟩
theorem Grow.kept {R T : Nat → Prop} {W w w' : World} {v : Value} {ts : List Tr} (h : Grow R W w v ts) (hm : Moved T w w') (hT : ∀ g, T g → g < W.heap.size) (hRT : ∀ g, T g → R g) : Grow R W w' v ts := by
  obtain ⟨vs, S, h1, h2, h3, h4⟩ := h
  refine ⟨vs, S, ⟨Moved.owns hm h1.1 (fun g hg ht => by have := World.ownsRow.lt h1.1 g hg; have := hT g ht; omega), h1.2⟩, h2.kept hm (fun g hg ht => by have := (h3 g hg).1; have := hT g ht; omega), fun g hg => ?_, h4.trans hm (fun g _ ht => hRT g ht)⟩
  have := h3 g hg
  have := hm.size
  exact ⟨by omega, by omega, (h3 g hg).2.2⟩
theorem Grow.wider {R T : Nat → Prop} {W w : World} {v : Value} {ts : List Tr} (h : Grow R W w v ts) (hRT : ∀ g, R g → T g) : Grow T W w v ts := by
  obtain ⟨vs, S, h1, h2, h3, h4⟩ := h
  exact ⟨vs, S, h1, h2, h3, h4.mono (fun g _ hg => hRT g hg)⟩
end Go.Proofs.Ytfbeepkogcmlmaa

/-
  Plain lemma, no program: as in Region; but the last operation, which waits for all others, may turn the world as it likes. Conditions: the dependency table passes a closed check.
-/
namespace Go.Proofs.Ytfbeepkogcmlmaa
set_option linter.unusedSimpArgs false
set_option linter.unusedVariables false
open Go Go.RowKit

section
variable {P : Program} {ops : Array Oper}

/-- Each operation but the last has one that waits for it. -/
def sinkOK (ops : Array Oper) : Bool :=
  (List.range (ops.size - 1)).all fun j => (List.range ops.size).any fun k => decide (j < k) && match ops[k]? with | some o => o.after.any fun e => Region.binds .any e && e.on == j | none => false

theorem wpAny_of_factsL {R : World → World → Prop} {D : Array (List Nat)} {Φ : Nat → Value → World → Prop} {a0 : Act} {w0 : World} {Q : Exit → Act → World → Prop}
    (hRt : ∀ {a b c : World}, R a b → R b c → R a c) (hchk : factsOK ops D = true) (hst : ∀ j v w w', R w w' → Φ j v w → Φ j v w') (hrr : ∀ w, R w w)
    (hop : ∀ i o, i + 1 < ops.size → ops[i]? = some o → opWord P ops R D Φ a0 w0 i o) (hpos : 0 < ops.size) (hsink : sinkOK ops = true)
    (hfin : ∀ o, ops[ops.size - 1]? = some o → ∀ y w, R w0 w → (∀ j, j + 1 < ops.size → Φ j (y j) w) → ∀ a, a = fillL y (canonL ops D (ops.size - 1)) a0 →
      if Region.wanted o (yielded ops a.tmps) then o.wp P a w (fun a' w' => Q .normal a' w') (fun _ _ _ => False) else Q .normal (a.put o.dst undef) w) :
    ∀ (fuel : Nat) (listed : Array Bool) (a : Act) (w : World) (y : Nat → Value), ((List.range ops.size).filter fun j => !listed.getD j true).length ≤ fuel →
      InvF ops R D Φ a0 w0 listed a w y → (∀ j o, ops[j]? = some o → listed.getD j false = true → ∀ e ∈ o.after, Region.binds .any e = true → listed.getD e.on false = true) → listed.getD (ops.size - 1) true = false → wpAny P .any ops Q fuel listed a w := by
  simp only [factsOK, Bool.and_eq_true, List.all_eq_true, List.mem_range] at hchk
  obtain ⟨hkeys, hrows⟩ := hchk
  -- nothing ready: all has been listed
  have hall : ∀ (listed : Array Bool), listed.size = ops.size → Region.ready .any ops listed = [] → ∀ j, j < ops.size → listed.getD j false = true := by
    intro listed hs hnil j
    induction j using Nat.strongRecOn with
    | ind j ih =>
      intro hj
      cases hl : listed.getD j false with
      | true => rfl
      | false =>
        exfalso
        have hmem : j ∈ Region.ready .any ops listed := by
          rw [mem_ready]
          refine ⟨by rw [listed_cases (by omega)]; exact hl, ops[j], Array.getElem?_eq_getElem hj, fun e he hb => ?_⟩
          have hrow := hrows j hj
          rw [Array.getElem?_eq_getElem hj] at hrow
          simp only [Bool.and_eq_true, List.all_eq_true, decide_eq_true_eq] at hrow
          have hlt := hrow.1 e.on (List.mem_map.2 ⟨e, List.mem_filter.2 ⟨by simpa using he, hb⟩, rfl⟩)
          exact ih e.on hlt (by omega)
        rw [hnil] at hmem
        cases hmem
  have hdone : ∀ (listed : Array Bool) (a : Act) (w : World) (y : Nat → Value), InvF ops R D Φ a0 w0 listed a w y → listed.getD (ops.size - 1) true = false → Region.ready .any ops listed = [] → Q .normal a w := by
    intro listed a w y hI hl hnil
    have := hall listed hI.size hnil (ops.size - 1) (by omega)
    rw [← listed_cases (by rw [hI.size]; omega), hl] at this
    cases this
  intro fuel
  induction fuel with
  | zero =>
    intro listed a w y hlen hI hE hL
    have hnil : Region.ready .any ops listed = [] := by
      have h0 : ((List.range ops.size).filter fun j => !listed.getD j true) = [] := List.length_eq_zero_iff.1 (by omega)
      refine List.eq_nil_iff_forall_not_mem.2 fun j hj => ?_
      have hj' := mem_ready.1 hj
      have : j ∈ ((List.range ops.size).filter fun j => !listed.getD j true) := by
        obtain ⟨hl, o, ho, _⟩ := hj'
        exact List.mem_filter.2 ⟨List.mem_range.2 (Array.getElem?_eq_some_iff.1 ho).1, by simp [hl]⟩
      rw [h0] at this
      cases this
    exact ⟨hnil, hdone listed a w y hI hL hnil⟩
  | succ fuel ih =>
    intro listed a w y hlen hI hE hL
    refine ⟨hdone listed a w y hI hL, fun i hi => ?_⟩
    obtain ⟨hun, o, ho, hedges⟩ := mem_ready.1 hi
    have hilt : i < ops.size := (Array.getElem?_eq_some_iff.1 ho).1
    have hunf : listed.getD i false = false := by rw [← listed_cases (by rw [hI.size]; exact hilt)]; exact hun
    have hrow := hrows i hilt
    rw [ho] at hrow
    simp only [Bool.and_eq_true, List.all_eq_true, decide_eq_true_eq, List.any_eq_true, Bool.or_eq_true, beq_iff_eq, List.contains_iff_mem] at hrow
    -- what i waits for has been listed
    have hD : ∀ k ∈ D.getD i [], listed.getD k false = true := by
      intro k hk
      obtain ⟨e, he, hek⟩ := hrow.2 k hk
      obtain ⟨ed, hed, rfl⟩ := List.mem_map.1 he
      obtain ⟨hed1, hed2⟩ := List.mem_filter.1 hed
      have hl := hedges ed (by simpa using hed1) hed2
      rcases hek with rfl | hek
      · exact hl
      · exact hI.closed _ hl k hek
    have hcan : fillL y (canonL ops D i) a0 = a := by
      rw [hI.act]
      refine fillL_filter y _ _ a0 hkeys ?_
      rintro ⟨d, j⟩ hq hp
      simp only [Bool.not_eq_false', Bool.or_eq_true, beq_iff_eq] at hp
      have hdst := mem_pairsOf.1 hq
      refine hI.open_ j d ?_ hdst
      rcases hp with rfl | hw
      · exact hun
      · have hjlt : j < listed.size := by
          rw [hI.size]
          rcases Nat.lt_or_ge j ops.size with h' | h'
          · exact h'
          · rw [Array.getElem?_eq_none h'] at hdst; cases hdst
        rw [listed_cases hjlt]
        cases hl : listed.getD j false with
        | false => rfl
        | true =>
          have := hI.closed j hl i (by simpa [waits] using hw)
          rw [hunf] at this
          cases this
    by_cases hlast : i = ops.size - 1
    · -- the last: all others have been listed
      subst hlast
      have hothers : ∀ d j, ops.size - 1 - j = d → j + 1 < ops.size → listed.getD j false = true := by
        intro d
        induction d using Nat.strongRecOn with
        | ind d ihd =>
          intro j hd hj
          have h1 := List.all_eq_true.1 hsink j (List.mem_range.2 (by omega))
          obtain ⟨k, hk, hk2⟩ := List.any_eq_true.1 h1
          simp only [Bool.and_eq_true, decide_eq_true_eq] at hk2
          have hkn := List.mem_range.1 hk
          obtain ⟨hjk, hwt⟩ := hk2
          cases hok : ops[k]? with
          | none => simp [hok] at hwt
          | some ok =>
            simp only [hok, Array.any_eq_true'] at hwt
            obtain ⟨e, he, hb⟩ := hwt
            simp only [Bool.and_eq_true, beq_iff_eq] at hb
            rw [← hb.2]
            by_cases hkl : k = ops.size - 1
            · subst hkl
              rw [ho] at hok; cases hok
              exact hedges e he hb.1
            · exact hE k ok hok (ihd (ops.size - 1 - k) (by omega) k rfl (by omega)) e he hb.1
      have hfl := hfin o ho y w hI.grown (fun j hj => hI.facts j (hothers _ j rfl hj)) a hcan.symm
      have hend : ∀ v w', Q .normal v w' → wpAny P .any ops Q fuel (listed.setIfInBounds (ops.size - 1) true) v w' := by
        intro v w' hq
        have hnil : Region.ready .any ops (listed.setIfInBounds (ops.size - 1) true) = [] := by
          refine List.eq_nil_iff_forall_not_mem.2 fun j hj => ?_
          obtain ⟨hl, o', ho', _⟩ := mem_ready.1 hj
          have hjlt : j < ops.size := (Array.getElem?_eq_some_iff.1 ho').1
          by_cases hjl : ops.size - 1 = j
          · subst hjl
            have h2 : ops.size - 1 < listed.size := by rw [hI.size]; exact hilt
            simp [h2] at hl
          · rw [getD_set_ne true hjl, listed_cases (by rw [hI.size]; exact hjlt), hothers _ j rfl (by omega)] at hl
            cases hl
        cases fuel with
        | zero => exact ⟨hnil, hq⟩
        | succ f => exact ⟨fun _ => hq, fun j hj => by rw [hnil] at hj; cases hj⟩
      unfold wpOp
      simp only [ho]
      split at hfl
      · rename_i hwa
        rw [if_pos hwa]
        exact .inl (wp_exit (Oper.wp_mono (fun a' w' hq => hend a' w' hq) hfl))
      · rename_i hwa
        rw [if_neg hwa]
        exact hend _ _ hfl
    have hw := hop i o (by omega) ho y w hI.grown (fun j hj => hI.facts j (hD j hj)) (fun a' w' => ∃ v, a' = a.put o.dst v ∧ R w w' ∧ Φ i v w')
    rw [hcan] at hw
    have hlen' : ((List.range ops.size).filter fun j => !(listed.setIfInBounds i true).getD j true).length ≤ fuel := by
      have : ((List.range ops.size).filter fun j => !(listed.setIfInBounds i true).getD j true).length < ((List.range ops.size).filter fun j => !listed.getD j true).length := by
        refine filter_lt _ i (fun j hj => ?_) (List.mem_range.2 hilt) (by rw [hun]; rfl) ?_
        · by_cases hij : i = j
          · subst hij
            have h2 : i < listed.size := by rw [hI.size]; exact hilt
            simp [h2] at hj
          · rw [getD_set_ne true hij] at hj; exact hj
        · have h2 : i < listed.size := by rw [hI.size]; exact hilt
          simp [h2]
      omega
    have hnext : ∀ v w', R w w' → Φ i v w' → wpAny P .any ops Q fuel (listed.setIfInBounds i true) (a.put o.dst v) w' := by
      intro v w' hr hφ
      have h2 : i < listed.size := by rw [hI.size]; exact hilt
      refine ih _ _ _ (fun k => if k = i then v else y k) hlen' ⟨by simp [hI.size], ?_, hRt hI.grown hr, ?_, ?_, ?_⟩ ?_ ?_
      · cases hd : o.dst with
        | none =>
          rw [hI.act]
          show fillL y (pairsOf ops) a0 = _
          refine fillL_congr _ _ _ _ fun p hp => ?_
          have := mem_pairsOf.1 (show (p.1, p.2) ∈ pairsOf ops from hp)
          have hne : p.2 ≠ i := fun he => by rw [he, ho] at this; simp [hd] at this
          simp [hne]
        | some d =>
          rw [hI.act, fillL_set y i v _ a0 d hkeys (mem_pairsOf.2 (by simp [ho, hd]))]
      · intro j hj
        by_cases hji : j = i
        · subst hji; simpa using hφ
        · simp only [hji, if_false]
          rw [getD_set_ne false (Ne.symm hji)] at hj
          exact hst j _ _ _ hr (hI.facts j hj)
      · intro j d hj hdst
        have hji : j ≠ i := fun he => by subst he; simp [h2] at hj
        simp only [hji, if_false]
        rw [getD_set_ne true (Ne.symm hji)] at hj
        exact hI.open_ j d hj hdst
      · intro j hj k hk
        by_cases hji : j = i
        · subst hji; exact getD_set_true (hD k hk)
        · rw [getD_set_ne false (Ne.symm hji)] at hj
          exact getD_set_true (hI.closed j hj k hk)
      · intro j oj hoj hj e he hb
        by_cases hji : j = i
        · subst hji
          rw [ho] at hoj; cases hoj
          exact getD_set_true (hedges e he hb)
        · rw [getD_set_ne false (Ne.symm hji)] at hj
          exact getD_set_true (hE j oj hoj hj e he hb)
      · rw [getD_set_ne true hlast]; exact hL
    unfold wpOp
    simp only [ho]
    have hw2 := hw (fun v w' hr hφ => ⟨v, rfl, hr, hφ⟩)
    split at hw2
    · rename_i hwa
      rw [if_pos hwa]
      refine .inl ?_
      have h3 : o.wp P a w (wpAny P .any ops Q fuel (listed.setIfInBounds i true)) (fun _ _ _ => False) :=
        Oper.wp_mono (fun a' w' ⟨v, he, hr, hφ⟩ => by subst he; exact hnext v w' hr hφ) hw2
      exact wp_exit h3
    · rename_i hwa
      rw [if_neg hwa]
      obtain ⟨v, he, hr, hφ⟩ := hw2
      rw [he]
      exact hnext v w hr hφ
where
  wp_exit {o : Oper} {a : Act} {w : World} {K : Act → World → Prop} {Q : Exit → Act → World → Prop} (h : o.wp P a w K (fun _ _ _ => False)) : o.wp P a w K Q := by
    unfold Oper.wp at *
    generalize (execOp a.eval o).run P w = r at *
    cases r with
    | ok n w' =>
      cases n <;> simp only [Oper.upon] at h ⊢
      case enter f args =>
        refine Calls.mono h fun e w'' he => ?_
        cases e with
        | returned v => exact he
        | panicked c => exact he.elim
        | outgrown => obtain ⟨_, _, hq⟩ := he; exact hq.elim
      all_goals exact h
    | halt x w' => cases x <;> simp only [Oper.upon] at h


def lastOf {α : Type} [Inhabited α] : List α → α
  | [] => default
  | [x] => x
  | _ :: y :: r => lastOf (y :: r)
theorem lastOf_eq {α : Type} [Inhabited α] : ∀ l : List α, lastOf l = l.getLast?.getD default
  | [] => rfl
  | [x] => rfl
  | _ :: y :: r => by rw [lastOf, lastOf_eq (y :: r), List.getLast?_cons_cons]

/-- **A region that draws its order, its last operation free; the tables written out.** -/
theorem wp_region_last {id : Nat} {a0 : Act} {w0 : World} {Q : Exit → Act → World → Prop} (R : World → World → Prop) (D : List (List Nat)) (C : List (List (Nat × Nat))) (Φ : List (Value → World → Prop)) (hm : P.follows .mixedOrders = true)
    (hRt : ∀ {a b c : World}, R a b → R b c → R a c) (hrr : ∀ w, R w w) (hd : R w0 w0.drew) (hchk : (tablesOK ops D C (pairsOf ops) && sinkOK ops && decide (0 < ops.size)) = true) (hst : stL R Φ)
    (hlen : Φ.length + 1 = ops.size)
    (hop : allW P ops R Φ a0 w0 0 ops.toList.dropLast D C)
    (hfin : ∀ y w, R w0 w → factsH y w 0 Φ → ∀ K : Act → World → Prop, (∀ a' w', Q .normal a' w' → K a' w') →
      if Region.wanted (lastOf ops.toList) (yielded ops (fillL y (lastOf C) a0).tmps) then (lastOf ops.toList).wp P (fillL y (lastOf C) a0) w K (fun _ _ _ => False) else K ((fillL y (lastOf C) a0).put (lastOf ops.toList).dst undef) w)
    (hCl : C.length = ops.size) : (Code.region id ops true).wp P Q a0 w0 := by
  simp only [Bool.and_eq_true, decide_eq_true_eq] at hchk
  obtain ⟨⟨hchk, hsink⟩, hpos⟩ := hchk
  simp only [tablesOK, Bool.and_eq_true, decide_eq_true_eq, List.all_eq_true, List.mem_range] at hchk
  obtain ⟨⟨h1, h2⟩, h3⟩ := hchk
  refine wp_region_any hm ?_
  have hwords := allW_words (P := P) (R := R) (Φ := Φ) (a0 := a0) (w0 := w0) D C h3
  refine wpAny_of_factsL (R := R) (D := D.toArray) (Φ := fun j => Φ.getD j (fun _ _ => True)) (a0 := a0) (w0 := w0) hRt h1 ?_ hrr (fun i o hi ho => ?_) hpos hsink ?_ ops.size _ a0 _ (fun j => match (ops[j]?).bind (·.dst) with | some d => a0.tmps.getD d undef | none => undef) ?_ ⟨by simp, ?_, hd, ?_, ?_, ?_⟩ ?_ ?_
  · intro j v w w' hr hφ
    rcases Nat.lt_or_ge j Φ.length with hj | hj
    · have e : Φ.getD j (fun _ _ => True) = Φ[j] := by simp [List.getD_eq_getElem?_getD, hj]
      simp only [e] at hφ ⊢
      exact stL_mem Φ hst _ (List.getElem_mem hj) v w w' hr hφ
    · have e : Φ.getD j (fun _ _ => True) = fun _ _ => True := by simp [List.getD_eq_getElem?_getD, hj]
      simp only [e]
  · have hd2 := allW_dropLast D C h3 ops.toList.dropLast 0 D C (by simp) (by simp) (by simp) hop
    have := allWords_get _ 0 i o hd2 (by rw [List.getElem?_dropLast]; simp; exact ⟨by omega, ho⟩)
    simpa using this
  · intro o ho y w hr hf a ha
    subst ha
    have hl : ops.toList.getLast? = some o := by rw [List.getLast?_eq_getElem?]; simpa using ho
    have hc : lastOf C = canonL ops D.toArray (ops.size - 1) := by
      rw [lastOf_eq, ← h3 (ops.size - 1) (by omega), List.getLast?_eq_getElem?, List.getD_eq_getElem?_getD, hCl]; rfl
    rw [← hc]
    have ho2 : lastOf ops.toList = o := by rw [lastOf_eq, hl]; rfl
    rw [← ho2]
    exact hfin y w hr (factsH_of Φ 0 (by simp) (fun j h => hf j (by omega))) _ (fun _ _ h => h)
  · exact Nat.le_trans (List.length_filter_le _ _) (by simp)
  · symm
    have : ∀ (L : List (Nat × Nat)), (∀ p ∈ L, (ops[p.2]?).bind (·.dst) = some p.1) → fillL (fun j => match (ops[j]?).bind (·.dst) with | some d => a0.tmps.getD d undef | none => undef) L a0 = a0 := by
      intro L
      induction L with
      | nil => intro _; rfl
      | cons p L ih =>
        intro h
        obtain ⟨d, j⟩ := p
        have hd := h (d, j) (by simp)
        simp only at hd
        show fillL _ L (a0.put (some d) _) = a0
        simp only [hd]
        rw [put_self]
        exact ih (fun p hp => h p (by simp [hp]))
    exact this _ (fun p hp => mem_pairsOf.1 hp)
  · intro j hj
    have h : (Array.replicate ops.size false).getD j false = false := by
      simp [Array.getD]
    rw [h] at hj; cases hj
  · intro j d _ hdst
    simp only [hdst]
    exact put_self a0 d
  · intro j hj
    have h : (Array.replicate ops.size false).getD j false = false := by
      simp [Array.getD]
    rw [h] at hj; cases hj
  · intro j o _ hj
    have h : (Array.replicate ops.size false).getD j false = false := by
      simp [Array.getD]
    rw [h] at hj; cases hj
  · have h2 : ops.size - 1 < ops.size := by omega
    simp [Array.getD, h2]
where
  allW_dropLast {R : World → World → Prop} {Φ : List (Value → World → Prop)} {a0 : Act} {w0 : World} (D0 : List (List Nat)) (C0 : List (List (Nat × Nat))) (hC : ∀ i, i < ops.size → C0.getD i [] = canonL ops D0.toArray i) :
    ∀ (l : List Oper) (i : Nat) (D : List (List Nat)) (C : List (List (Nat × Nat))), i + l.length ≤ ops.size → (∀ k, D[k]? = D0[i + k]?) → (∀ k, C[k]? = C0[i + k]?) → allW P ops R Φ a0 w0 i l D C →
      allWords (opWord P ops R D0.toArray (fun j => Φ.getD j (fun _ _ => True)) a0 w0) i l := by
    intro l
    induction l with
    | nil => intros; trivial
    | cons o r ih =>
      intro i D C hl hD hC' h
      match D, C, h with
      | d :: ds, c :: cs, h =>
        obtain ⟨h1, h2⟩ := h
        refine ⟨?_, ih (i + 1) ds cs (by simp at hl; omega) (fun k => ?_) (fun k => ?_) h2⟩
        · have hd : D0.toArray.getD i [] = d := by
            have := hD 0
            simp at this
            simp [Array.getD_eq_getD_getElem?, ← this]
          have hc : canonL ops D0.toArray i = c := by
            rw [← hC i (by simp at hl; omega)]
            have := hC' 0
            simp at this
            simp [List.getD_eq_getElem?_getD, ← this]
          intro y w hR hj K hK
          rw [hd] at hj
          rw [hc] at hK ⊢
          exact h1 y w hR (depsH_of _ hj) K (fun a' v w' he hr hφ => by subst he; exact hK v w' hr hφ)
        · have := hD (k + 1)
          simp at this
          rw [this]; congr 1; omega
        · have := hC' (k + 1)
          simp at this
          rw [this]; congr 1; omega

end
theorem ite_yes {b : Bool} {p q : Prop} (hb : b = true) (h : p) : if b then p else q := by rw [if_pos hb]; exact h
end Go.Proofs.Ytfbeepkogcmlmaa

/-
  Trees: the reference's copy. Conditions: the node lies in memory; rows of at most 4096.
-/
namespace Go.Proofs.Ytfbeepkogcmlmaa
open Go Go.ChangeShapes Go.WideShapes Go.ChangeAt Go.RowKit Go.Joins Go.Deep
set_option linter.unusedVariables false
set_option linter.unusedSimpArgs false

mutual
def Few : Tr → Prop | .mk _ _ _ _ keys l => keys.length ≤ 4096 ∧ l.length ≤ 4096 ∧ FewL l
def FewL : List Tr → Prop | [] => True | t :: r => Few t ∧ FewL r
end
theorem FewL.mem {l : List Tr} (h : FewL l) {x : Tr} (hx : x ∈ l) : Few x := by
  induction l with
  | nil => cases hx
  | cons t r ih =>
    simp only [FewL] at h
    rcases List.mem_cons.1 hx with rfl | hx
    · exact h.1
    · exact ih h.2 hx
theorem heap_store6 {w : World} {g : Nat} {a b c d e f : Value} {t : TypeId} (h : w.heap[g]? = some (.cells #[a, b, c, d, e, f] t (0, 0))) (a' b' c' d' e' f' : Value) :
    ((((((w.setCell ⟨g, 0, none⟩ a').setCell ⟨g, 1, none⟩ b').setCell ⟨g, 2, none⟩ c').setCell ⟨g, 3, none⟩ d').setCell ⟨g, 4, none⟩ e').setCell ⟨g, 5, none⟩ f').heap[g]? = some (.cells #[a', b', c', d', e', f'] t (0, 0)) := by
  have h1 := heap_setCell_same w g 0 _ _ a' h
  have h2 := heap_setCell_same _ g 1 _ _ b' h1
  have h3 := heap_setCell_same _ g 2 _ _ c' h2
  have h4 := heap_setCell_same _ g 3 _ _ d' h3
  have h5 := heap_setCell_same _ g 4 _ _ e' h4
  have h6 := heap_setCell_same _ g 5 _ _ f' h5
  simpa using h6
theorem moved_store6 (w : World) (g : Nat) (a' b' c' d' e' f' : Value) :
    Moved (fun k => k = g) w ((((((w.setCell ⟨g, 0, none⟩ a').setCell ⟨g, 1, none⟩ b').setCell ⟨g, 2, none⟩ c').setCell ⟨g, 3, none⟩ d').setCell ⟨g, 4, none⟩ e').setCell ⟨g, 5, none⟩ f') :=
  Moved.setCell (S := fun k => k = g) (p := ⟨g, 5, none⟩) (Moved.setCell (S := fun k => k = g) (p := ⟨g, 4, none⟩) (Moved.setCell (S := fun k => k = g) (p := ⟨g, 3, none⟩) (Moved.setCell (S := fun k => k = g) (p := ⟨g, 2, none⟩) (Moved.setCell (S := fun k => k = g) (p := ⟨g, 1, none⟩) (Moved.setCell (S := fun k => k = g) (p := ⟨g, 0, none⟩) (Moved.refl _ w) (fun _ => rfl) _) (fun _ => rfl) _) (fun _ => rfl) _) (fun _ => rfl) _) (fun _ => rfl) _) (fun _ => rfl) _
/-- Six stores, the cells of one node. -/
abbrev store6 (w : World) (g : Nat) (a' b' c' d' e' f' : Value) : World := ((((((w.setCell ⟨g, 0, none⟩ a').setCell ⟨g, 1, none⟩ b').setCell ⟨g, 2, none⟩ c').setCell ⟨g, 3, none⟩ d').setCell ⟨g, 4, none⟩ e').setCell ⟨g, 5, none⟩ f')
theorem moved_close (w : World) (g r : Nat) (a b c d e f : Value) (x : Value) : Moved (fun k => k = g ∨ k = r) w (store6 (w.setCell ⟨g, 5, none⟩ x) r a b c d e f) :=
  (Moved.setCell (S := fun k => k = g ∨ k = r) (p := ⟨g, 5, none⟩) (Moved.refl _ w) (fun _ => .inl rfl) x).trans (moved_store6 _ r a b c d e f) (fun _ _ h => .inr h)
/-- Writes to new blocks alone. -/
theorem Moved.fresh {S : Nat → Prop} {w0 w w' : World} (hg : Grew w0 w) (h : Moved S w w') (hS : ∀ g, S g → w0.heap.size ≤ g) : Grew w0 w' :=
  Below.trans hg (h.below hg.size hS)
theorem NodeAt.node6 {w : World} {t : Tr} {v : Value} (h : NodeAt w t v) : Node6 v := by
  cases t
  simp only [NodeAt] at h
  obtain ⟨_, kv, lv, vs, rfl, ⟨a4, c4, rfl, _⟩, ⟨a5, c5, rfl, _⟩, _⟩ := h
  exact ⟨_, _, _, _, _, _, _, _, _, _, rfl⟩
theorem Cells6.get {w : World} {b o : Nat} {x0 x1 x2 x3 x4 x5 : Value} (h : Cells6 w b o (.agg #[x0, x1, x2, x3, x4, x5])) :
    w.cell? ⟨b, o, none⟩ = some x0 ∧ w.cell? ⟨b, o + 1, none⟩ = some x1 ∧ w.cell? ⟨b, o + 2, none⟩ = some x2 ∧ w.cell? ⟨b, o + 3, none⟩ = some x3 ∧ w.cell? ⟨b, o + 4, none⟩ = some x4 ∧ w.cell? ⟨b, o + 5, none⟩ = some x5 := by
  obtain ⟨c0, c1, c2, c3, c4, c5, e, h⟩ := h
  injection e with e
  injection e with e
  simp at e
  obtain ⟨rfl, rfl, rfl, rfl, rfl, rfl⟩ := e
  exact h
/-- Two rows of different types are two blocks. -/
theorem not_block {w : World} {B : Nat} {e t : TypeId} {size n : Nat} {v : Value} {xs : List Value} (h : w.ownsRow B e size v n xs) {g : Nat} {cs : Array Value} (hg : w.heap[g]? = some (.cells cs t (0, 0))) (he : e ≠ t) : v.ownBlock ≠ some g := by
  intro hv
  rcases h.2 with ⟨rfl, _⟩ | ⟨g2, cap, cur, rfl, _, h2, _⟩
  · cases hv
  · have : g2 = g := by injection hv
    subst this
    rw [hg] at h2
    injection h2 with h2
    injection h2 with _ h2
    exact he h2.symm
set_option maxRecDepth 100000 in
set_option maxHeartbeats 4000000 in
theorem copynode_any : ∀ (m : Nat) (t : Tr), t.size ≤ m → ∀ (v : Value) (w : World), NodeAt w t v → Few t →
    Calls Try.prog 51 #[v] w fun r w' => ∃ v', r = .returned v' ∧ OwnT w' w.heap.size t v' (Fresh w w') ∧ Grew w w' := by
  intro m
  induction m with
  | zero => intro t ht; have := t.size_pos; omega
  | succ m ih =>
  intro t ht v w hn hf
  obtain ⟨k, n, u, s, keys, l⟩ := t
  simp only [NodeAt] at hn
  obtain ⟨hb, kv, lv, vs, rfl, hks, hrows, hkids⟩ := hn
  simp only [Few] at hf
  obtain ⟨hf1, hf2, hf3⟩ := hf
  have hkl : vs.length = l.length := hkids.length
  have HKS := Lib.hid hks
  have HK := Lib.hid hkids
  have HF3 := Lib.hid hf3
  have HB := Lib.hid hb
  obtain ⟨a4, c4, rfl, hx1, hx2, hx3, hx4⟩ := hks
  clear hx1 hx2 hx3 hx4
  have HROWS := Lib.hid hrows
  obtain ⟨a5, c5, rfl, hx1, hc5, hx3, hx4⟩ := hrows
  clear hx1 hx3 hx4
  rw [hkl] at HROWS ⊢
  have hkz : Hid (∀ x ∈ keys, lenok x.size) := fun x hx => by
    obtain ⟨_, _, _, _, _, _, h⟩ := HKS.out
    obtain ⟨i, hi, rfl⟩ := List.mem_iff_getElem.1 hx
    exact (h i _ (List.getElem?_eq_getElem hi)).1
  have hsz : ∀ x ∈ l, x.size ≤ m := fun x hx => by have := size_mem hx; simp only [Tr.size] at ht; omega
  have HSZ := Lib.hid hsz
  clear hkids hf3 hb hsz ht hkl hc5
  go_enter Try.func51, Try.ntmps51
  go_wp2_with fail
  have hb1 := heap_alloc_new w (.cells #[.int .i64 k, .int .i64 n, .int .u64 u, .string s, .slice a4 keys.length c4, .slice a5 l.length c5] 26)
  have hg1 := (Grew.refl w).alloc (.cells #[.int .i64 k, .int .i64 n, .int .u64 u, .string s, .slice a4 keys.length c4, .slice a5 l.length c5] 26)
  have hs1 : (w.alloc (.cells #[.int .i64 k, .int .i64 n, .int .u64 u, .string s, .slice a4 keys.length c4, .slice a5 l.length c5] 26)).heap.size = w.heap.size + 1 := World.size_alloc _ _
  generalize (w.alloc (.cells #[.int .i64 k, .int .i64 n, .int .u64 u, .string s, .slice a4 keys.length c4, .slice a5 l.length c5] 26)) = w1 at *
  have hb2 := heap_alloc_new w1 (.cells #[.int .i64 0, .int .i64 0, .int .u64 0, .string ⟨#[]⟩, .slice none 0 0, .slice none 0 0] 26)
  have hg2 := (Grew.refl w1).alloc (.cells #[.int .i64 0, .int .i64 0, .int .u64 0, .string ⟨#[]⟩, .slice none 0 0, .slice none 0 0] 26)
  have hs2 : (w1.alloc (.cells #[.int .i64 0, .int .i64 0, .int .u64 0, .string ⟨#[]⟩, .slice none 0 0, .slice none 0 0] 26)).heap.size = w1.heap.size + 1 := World.size_alloc _ _
  rw [hs1] at hb2 hs2
  skip
  generalize (w1.alloc (.cells #[.int .i64 0, .int .i64 0, .int .u64 0, .string ⟨#[]⟩, .slice none 0 0, .slice none 0 0] 26)) = w2 at *
  replace hb1 := hg2.heap hb1
  have hG := hg1.trans hg2
  have hs2' : w2.heap.size = w.heap.size + 2 := by omega
  obtain ⟨N, hN⟩ : ∃ N, w.heap.size = N := ⟨_, rfl⟩
  rw [hN] at hb1 hb2 hs2' ⊢
  have hB2 : Hid (N + 2 ≤ w2.heap.size) := by show _ ≤ _; omega
  have c0 := row_cellT hb1 0 _ rfl
  have c1 := row_cellT hb1 1 _ rfl
  have c2 := row_cellT hb1 2 _ rfl
  have c3 := row_cellT hb1 3 _ rfl
  have c4' := row_cellT hb1 4 _ rfl
  have HB1 := Lib.hid hb1
  have HB2 := Lib.hid hb2
  have HG := Lib.hid hG
  have HS2 := Lib.hid hs2'
  have HN := Lib.hid hN
  clear hb1 hb2 hG hs1 hs2 hs2' hg1 hg2 hN
  refine wp_region_last Grew [[], [0], [], [2], [], [4], [], [6], [], [8], [9], [1, 3, 5, 7, 10], [], [11, 12]] [[(8, 2), (9, 3), (10, 4), (11, 5), (12, 6), (13, 7), (14, 8), (15, 9), (16, 10), (17, 11), (3, 12)], [(6, 0), (8, 2), (9, 3), (10, 4), (11, 5), (12, 6), (13, 7), (14, 8), (15, 9), (16, 10), (3, 12)], [(6, 0), (7, 1), (10, 4), (11, 5), (12, 6), (13, 7), (14, 8), (15, 9), (16, 10), (17, 11), (3, 12)], [(6, 0), (7, 1), (8, 2), (10, 4), (11, 5), (12, 6), (13, 7), (14, 8), (15, 9), (16, 10), (3, 12)], [(6, 0), (7, 1), (8, 2), (9, 3), (12, 6), (13, 7), (14, 8), (15, 9), (16, 10), (17, 11), (3, 12)], [(6, 0), (7, 1), (8, 2), (9, 3), (10, 4), (12, 6), (13, 7), (14, 8), (15, 9), (16, 10), (3, 12)], [(6, 0), (7, 1), (8, 2), (9, 3), (10, 4), (11, 5), (14, 8), (15, 9), (16, 10), (17, 11), (3, 12)], [(6, 0), (7, 1), (8, 2), (9, 3), (10, 4), (11, 5), (12, 6), (14, 8), (15, 9), (16, 10), (3, 12)], [(6, 0), (7, 1), (8, 2), (9, 3), (10, 4), (11, 5), (12, 6), (13, 7), (16, 10), (17, 11), (3, 12)], [(6, 0), (7, 1), (8, 2), (9, 3), (10, 4), (11, 5), (12, 6), (13, 7), (14, 8), (17, 11), (3, 12)], [(6, 0), (7, 1), (8, 2), (9, 3), (10, 4), (11, 5), (12, 6), (13, 7), (14, 8), (15, 9), (3, 12)], [(6, 0), (7, 1), (8, 2), (9, 3), (10, 4), (11, 5), (12, 6), (13, 7), (14, 8), (15, 9), (16, 10), (3, 12)], [(6, 0), (7, 1), (8, 2), (9, 3), (10, 4), (11, 5), (12, 6), (13, 7), (14, 8), (15, 9), (16, 10), (17, 11)], [(6, 0), (7, 1), (8, 2), (9, 3), (10, 4), (11, 5), (12, 6), (13, 7), (14, 8), (15, 9), (16, 10), (17, 11), (3, 12)]]
    [Is (.pointer (some ⟨N, 0, none⟩)), Is (.int .i64 k), Is (.pointer (some ⟨N, 1, none⟩)), Is (.int .i64 n), Is (.pointer (some ⟨N, 2, none⟩)), Is (.int .u64 u), Is (.pointer (some ⟨N, 3, none⟩)), Is (.string s), Is (.pointer (some ⟨N, 4, none⟩)), Is (.slice a4 keys.length c4), fun v w => OwnS w (N + 2) v keys, fun v w => ∃ kv', v = .agg #[.int .i64 k, .int .i64 n, .int .u64 u, .string s, kv', .slice none 0 0] ∧ OwnS w (N + 2) kv' keys, fun v w => ∃ g, v = .pointer (some ⟨g, 0, none⟩) ∧ (N + 2) ≤ g ∧ w.heap[g]? = some (.cells #[.int .i64 0, .int .i64 0, .int .u64 0, .string ⟨#[]⟩, .slice none 0 0, .slice none 0 0] 26)]
    (by kernel_rfl) Grew.trans Grew.refl (Grew.refl _).drew (by kernel_rfl) ⟨is_st, is_st, is_st, is_st, is_st, is_st, is_st, is_st, is_st, is_st, fun _ _ _ hg h => OwnS.grew h hg, fun _ _ _ hg h => h.elim fun q h => ⟨q, h.1, OwnS.grew h.2 hg⟩, fun _ _ _ hg h => h.elim fun q h => ⟨q, h.1, h.2.1, hg.heap h.2.2⟩, trivial⟩ rfl ⟨?_, ?_, ?_, ?_, ?_, ?_, ?_, ?_, ?_, ?_, ?_, ?_, ?_, trivial⟩ ?_ rfl
  · intro y w2' hG hD K hK
    simp only [fillL, Act.put, List.setIfInBounds_toArray, List.set_cons_zero, List.set_cons_succ, List.getD_cons_zero, List.getD_cons_succ, Is] at hK ⊢
    refine ite_yes (by rfl) ?_
    go_simp
    exact hK _ _ _ rfl (Grew.refl _) rfl
  · intro y w2' hG hD K hK
    simp only [depsH, List.getD_cons_zero, List.getD_cons_succ, Is, and_true] at hD
    have h0 := hD
    clear hD
    have dc0 := hG.cell c0
    have dc1 := hG.cell c1
    have dc2 := hG.cell c2
    have dc3 := hG.cell c3
    have dc4' := hG.cell c4'
    simp only [fillL, Act.put, List.setIfInBounds_toArray, List.set_cons_zero, List.set_cons_succ, List.getD_cons_zero, List.getD_cons_succ, Is] at hK ⊢
    rw [h0] at hK ⊢
    clear h0
    refine ite_yes (by rfl) ?_
    go_simp
    exact hK _ _ _ rfl (Grew.refl _) rfl
  · intro y w2' hG hD K hK
    simp only [fillL, Act.put, List.setIfInBounds_toArray, List.set_cons_zero, List.set_cons_succ, List.getD_cons_zero, List.getD_cons_succ, Is] at hK ⊢
    refine ite_yes (by rfl) ?_
    go_simp
    exact hK _ _ _ rfl (Grew.refl _) rfl
  · intro y w2' hG hD K hK
    simp only [depsH, List.getD_cons_zero, List.getD_cons_succ, Is, and_true] at hD
    have h2 := hD
    clear hD
    have dc0 := hG.cell c0
    have dc1 := hG.cell c1
    have dc2 := hG.cell c2
    have dc3 := hG.cell c3
    have dc4' := hG.cell c4'
    simp only [fillL, Act.put, List.setIfInBounds_toArray, List.set_cons_zero, List.set_cons_succ, List.getD_cons_zero, List.getD_cons_succ, Is] at hK ⊢
    rw [h2] at hK ⊢
    clear h2
    refine ite_yes (by rfl) ?_
    go_simp
    exact hK _ _ _ rfl (Grew.refl _) rfl
  · intro y w2' hG hD K hK
    simp only [fillL, Act.put, List.setIfInBounds_toArray, List.set_cons_zero, List.set_cons_succ, List.getD_cons_zero, List.getD_cons_succ, Is] at hK ⊢
    refine ite_yes (by rfl) ?_
    go_simp
    exact hK _ _ _ rfl (Grew.refl _) rfl
  · intro y w2' hG hD K hK
    simp only [depsH, List.getD_cons_zero, List.getD_cons_succ, Is, and_true] at hD
    have h4 := hD
    clear hD
    have dc0 := hG.cell c0
    have dc1 := hG.cell c1
    have dc2 := hG.cell c2
    have dc3 := hG.cell c3
    have dc4' := hG.cell c4'
    simp only [fillL, Act.put, List.setIfInBounds_toArray, List.set_cons_zero, List.set_cons_succ, List.getD_cons_zero, List.getD_cons_succ, Is] at hK ⊢
    rw [h4] at hK ⊢
    clear h4
    refine ite_yes (by rfl) ?_
    go_simp
    exact hK _ _ _ rfl (Grew.refl _) rfl
  · intro y w2' hG hD K hK
    simp only [fillL, Act.put, List.setIfInBounds_toArray, List.set_cons_zero, List.set_cons_succ, List.getD_cons_zero, List.getD_cons_succ, Is] at hK ⊢
    refine ite_yes (by rfl) ?_
    go_simp
    exact hK _ _ _ rfl (Grew.refl _) rfl
  · intro y w2' hG hD K hK
    simp only [depsH, List.getD_cons_zero, List.getD_cons_succ, Is, and_true] at hD
    have h6 := hD
    clear hD
    have dc0 := hG.cell c0
    have dc1 := hG.cell c1
    have dc2 := hG.cell c2
    have dc3 := hG.cell c3
    have dc4' := hG.cell c4'
    simp only [fillL, Act.put, List.setIfInBounds_toArray, List.set_cons_zero, List.set_cons_succ, List.getD_cons_zero, List.getD_cons_succ, Is] at hK ⊢
    rw [h6] at hK ⊢
    clear h6
    refine ite_yes (by rfl) ?_
    go_simp
    exact hK _ _ _ rfl (Grew.refl _) rfl
  · intro y w2' hG hD K hK
    simp only [fillL, Act.put, List.setIfInBounds_toArray, List.set_cons_zero, List.set_cons_succ, List.getD_cons_zero, List.getD_cons_succ, Is] at hK ⊢
    refine ite_yes (by rfl) ?_
    go_simp
    exact hK _ _ _ rfl (Grew.refl _) rfl
  · intro y w2' hG hD K hK
    simp only [depsH, List.getD_cons_zero, List.getD_cons_succ, Is, and_true] at hD
    have h8 := hD
    clear hD
    have dc0 := hG.cell c0
    have dc1 := hG.cell c1
    have dc2 := hG.cell c2
    have dc3 := hG.cell c3
    have dc4' := hG.cell c4'
    simp only [fillL, Act.put, List.setIfInBounds_toArray, List.set_cons_zero, List.set_cons_succ, List.getD_cons_zero, List.getD_cons_succ, Is] at hK ⊢
    rw [h8] at hK ⊢
    clear h8
    refine ite_yes (by rfl) ?_
    go_simp
    exact hK _ _ _ rfl (Grew.refl _) rfl
  · intro y w2' hG hD K hK
    simp only [depsH, List.getD_cons_zero, List.getD_cons_succ, Is, and_true] at hD
    have h9 := hD
    clear hD
    simp only [fillL, Act.put, List.setIfInBounds_toArray, List.set_cons_zero, List.set_cons_succ, List.getD_cons_zero, List.getD_cons_succ, Is] at hK ⊢
    rw [h9] at hK ⊢
    clear h9
    refine ite_yes (by rfl) ?_
    go_simp
    refine (copytexts_any _ _ _ (HKS.out.grew (HG.out.trans hG)) (by omega)).mono ?_
    rintro r w3 ⟨v', rfl, hv, hg⟩
    exact hK _ _ _ rfl hg (rows_base hv (Nat.le_trans hB2.out hG.size))
  · intro y w2' hG hD K hK
    simp only [depsH, List.getD_cons_zero, List.getD_cons_succ, Is, and_true] at hD
    have h1 := hD.1
    have h3 := hD.2.1
    have h5 := hD.2.2.1
    have h7 := hD.2.2.2.1
    have h10 := hD.2.2.2.2
    clear hD
    simp only [fillL, Act.put, List.setIfInBounds_toArray, List.set_cons_zero, List.set_cons_succ, List.getD_cons_zero, List.getD_cons_succ, Is] at hK ⊢
    rw [h1, h3, h5, h7] at hK ⊢
    clear h1 h3 h5 h7
    refine ite_yes (by rfl) ?_
    refine Exists.elim (rows_form h10) fun va h => Exists.elim h fun vc h => ?_
    have hs := h.1
    clear h
    rw [hs] at hK h10 ⊢
    go_simp
    exact hK _ _ _ rfl (Grew.refl _) ⟨_, rfl, h10⟩
  · intro y w2' hG hD K hK
    simp only [fillL, Act.put, List.setIfInBounds_toArray, List.set_cons_zero, List.set_cons_succ, List.getD_cons_zero, List.getD_cons_succ, Is] at hK ⊢
    refine ite_yes (by rfl) ?_
    go_simp
    exact hK _ _ _ rfl ((Grew.refl _).alloc _) ⟨_, rfl, Nat.le_trans hB2.out hG.size, heap_alloc_new _ _⟩
  · intro y w2' hG hF K hK
    simp only [factsH, Is, and_true, Nat.reduceAdd] at hF
    have h0 := hF.1
    have h1 := hF.2.1
    have h2 := hF.2.2.1
    have h3 := hF.2.2.2.1
    have h4 := hF.2.2.2.2.1
    have h5 := hF.2.2.2.2.2.1
    have h6 := hF.2.2.2.2.2.2.1
    have h7 := hF.2.2.2.2.2.2.2.1
    have h8 := hF.2.2.2.2.2.2.2.2.1
    have h9 := hF.2.2.2.2.2.2.2.2.2.1
    have h10 := hF.2.2.2.2.2.2.2.2.2.2.1
    have h11 := hF.2.2.2.2.2.2.2.2.2.2.2.1
    have h12 := hF.2.2.2.2.2.2.2.2.2.2.2.2
    clear hF
    simp only [lastOf]
    simp only [fillL, Act.put, List.setIfInBounds_toArray, List.set_cons_zero, List.set_cons_succ, List.getD_cons_zero, List.getD_cons_succ, Is] at hK ⊢
    rw [h0, h1, h2, h3, h4, h5, h6, h7, h8, h9]
    clear h0 h1 h2 h3 h4 h5 h6 h7 h8 h9
    refine ite_yes (by rfl) ?_
    refine Exists.elim h11 fun kv' h => ?_
    have hs11 := h.1
    have hkv := h.2
    refine Exists.elim (rows_form hkv) fun va h => Exists.elim h fun vc h => ?_
    have hs := h.1
    rw [hs] at hkv hs11
    clear h h11 hs h10
    refine Exists.elim h12 fun g h => ?_
    have hs12 := h.1
    have hgB := h.2.1
    have hrow := h.2.2
    clear h h12
    rw [hs11, hs12]
    clear hs11 hs12
    have f0 := row_frozen hrow 0
    have f1 := row_frozen hrow 1
    have f2 := row_frozen hrow 2
    have f3 := row_frozen hrow 3
    have f4 := row_frozen hrow 4
    have f5 := row_frozen hrow 5
    have d0 := row_cellT hrow 0 _ rfl
    have d1 := row_cellT hrow 1 _ rfl
    have d2 := row_cellT hrow 2 _ rfl
    have d3 := row_cellT hrow 3 _ rfl
    have d4 := row_cellT hrow 4 _ rfl
    have d5 := row_cellT hrow 5 _ rfl
    have hrow2 := heap_store6 hrow (.int .i64 k) (.int .i64 n) (.int .u64 u) (.string s) (.slice va keys.length vc) (.slice none 0 0)
    have hmv := moved_store6 w2' g (.int .i64 k) (.int .i64 n) (.int .u64 u) (.string s) (.slice va keys.length vc) (.slice none 0 0)
    have hkv2 : OwnS _ (N + 2) (.slice va keys.length vc) keys := Moved.owns hmv hkv (fun q hq e => not_block hkv hrow (by decide) (by rw [hq, e]))
    have hgr := Moved.fresh hG hmv (fun q e => by have := HS2.out; omega)
    clear hG hrow hmv hkv
    go_simp
    refine hK _ _ ?_
    clear f0 f1 f2 f3 f4 f5 d0 d1 d2 d3 d4 d5 hK
    generalize ((((((w2'.setCell ⟨g, 0, none⟩ (.int .i64 k)).setCell ⟨g, 1, none⟩ (.int .i64 n)).setCell ⟨g, 2, none⟩ (.int .u64 u)).setCell ⟨g, 3, none⟩ (.string s)).setCell ⟨g, 4, none⟩ (.slice va keys.length vc)).setCell ⟨g, 5, none⟩ (.slice none 0 0)) = w3 at *
    have HROW := Lib.hid hrow2
    have HKV := Lib.hid hkv2
    have HB1' := Lib.hid (hgr.heap HB1.out)
    have HB2' := Lib.hid (hgr.heap HB2.out)
    have HG3 := Lib.hid (HG.out.trans hgr)
    clear hrow2 hkv2 HB1 HB2 HG c0 c1 c2 c3 c4'
    have hgN : Hid (N + 2 ≤ g) := hgB
    clear hgB
    generalize y 10 = y10
  
    go_wp2_with fail
    go_loopw [4, 5] (fun v i wr => ∃ kk : Nat, kk ≤ l.length ∧ i = .int .i64 kk ∧ Hid (Grow (fun _ => False) w3 wr v (l.take kk))) (fun _ i _ => l.length - (intOf i).toNat)
    case atStart => exact ⟨0, Nat.zero_le _, rfl, by show Grow _ _ _ _ _; exact Grow.start _ _⟩
    case round =>
      obtain ⟨kk, hkk, rfl, HW⟩ := hrel
      have hgw : Grew w3 wr := by obtain ⟨_, _, _, _, _, hm⟩ := HW.out; exact Moved.fresh (Grew.refl _) hm (fun g h => h.elim)
      have HGW := Lib.hid hgw
      have b5 := row_cellT (hgw.heap HB1'.out) 5 _ rfl
      clear hgw
      by_cases hlt : kk < l.length
      · obtain ⟨x, hx⟩ : ∃ x, l[kk]? = some x := ⟨_, List.getElem?_eq_getElem hlt⟩
        obtain ⟨xv, hxv, hnx⟩ := HK.out.get hx
        have hxm : x ∈ l := List.mem_of_getElem? hx
        have HX := Lib.hid (show l.take kk ++ [x] = l.take (kk + 1) by rw [List.take_add_one, hx]; rfl)
        have HFX := Lib.hid (HF3.out.mem hxm)
        have hxs := HSZ.out x hxm
        have hcall : Hid (∀ w', Grew w w' → NodeAt w' x xv) := fun w' hg => hnx.grew hg
        obtain ⟨b, off, rfl, hc6⟩ : ∃ b off, a5 = some ⟨b, off, none⟩ ∧ Cells6 wr b (off + kk * 6) xv := by
          obtain ⟨a, c, e, _, _, _, h⟩ := HROWS.out
          injection e with e1 e2 e3
          subst e1
          obtain ⟨b, off, e, h6⟩ := h kk xv hxv
          exact ⟨b, off, e, h6.grew (HG3.out.trans HGW.out)⟩
        obtain ⟨xk, xn, xu, xs, xa4, xn4, xc4, xa5, xn5, xc5, rfl⟩ := hnx.node6
        obtain ⟨e0, e1, e2, e3, e4, e5⟩ := hc6.get
        clear hc6 hx hxv hnx hxm
        have hlti : (kk : Int) < l.length := by omega
        go_wp2_with fail
        refine (ih x hxs _ wr (hcall.out wr (HG3.out.trans HGW.out)) HFX.out).mono ?_
        rintro r w4 ⟨xv, rfl, hox, hg4⟩
        obtain ⟨yk, yn, yu, ys, ya4, yn4, yc4, ya5, yn5, yc5, rfl⟩ := hox.node6
        have HOX := Lib.hid hox
        have HG4 := Lib.hid hg4
        obtain ⟨vs4, S4, q1, q2, q3, q4⟩ := HW.out
        obtain ⟨ga, gc, rfl, hz1, hz2, hz3⟩ := HW.out.form
        have HV4 : Hid (vs4.length ≤ 4096) := by show _ ≤ _; rw [q2.length, List.length_take]; omega
        have HQ1 := Lib.hid q1
        have HQ2 := Lib.hid q2
        have HQ3 := Lib.hid q3
        have HQ4 := Lib.hid q4
        have HON : Hid (∀ o, OwnN (w4.alloc o) w3.heap.size (.slice ga (l.take kk).length gc) vs4) := fun o => (q1.grew hg4).grew ((Grew.refl _).alloc o)
        have HSZ4 : Hid (∀ o, w3.heap.size ≤ (w4.alloc o).heap.size) := fun o => Nat.le_trans (Nat.le_trans HGW.out.size hg4.size) ((Grew.refl w4).alloc o).size
        clear q1 q2 q3 q4 hz1 hz2 hz3 hox hg4 HW e0 e1 e2 e3 e4 e5 b5
        generalize l.take kk = L at *
        go_wp2_with (at_builtin; refine wpList_appendN rfl _ _ rfl w3.heap.size _ vs4 rfl (HON.out _) _ _ (.agg #[.int .i64 yk, .int .i64 yn, .int .u64 yu, .string ys, .slice ya4 yn4 yc4, .slice ya5 yn5 yc5]) rfl (heap_alloc_new _ _) ⟨_, _, _, _, _, _, _, _, _, _, rfl⟩ (by have := HV4.out; omega) (HSZ4.out _) ?_; intro v' w5 hown hgr hnx; obtain ⟨va2, vc2, rfl, hz1, hz2, hz3⟩ := rows_form hown.1; have HG5 := Lib.hid (Grow.step (R := fun _ => False) (fun g h => h.elim) vs4 S4 HQ2.out HQ1.out HQ3.out HQ4.out HOX.out (Moved.of_grew HG4.out) _ hown hgr hnx); clear hown hgr hnx hz1 hz2 hz3)
        go_roundw
        case rel =>
          refine ⟨kk + 1, by omega, by go_num, ?_⟩
          show Grow _ _ _ _ _
          rw [← HX.out]
          have hh := HG5.out
          rw [List.length_append] at hh
          exact hh
        case measure => simp [intOf]; omega
      · have ek : kk = l.length := by omega
        subst ek
        have hw := HW.out
        rw [List.take_length] at hw
        have HE := Lib.hid hw
        have hgw := HGW.out
        have hrow := hgw.heap HROW.out
        have hres := hgw.heap HB2'.out
        have HROWW := Lib.hid hrow
        have HRESW := Lib.hid hres
        have f5 := row_frozen hrow 5
        have r0 := row_frozen hres 0
        have r1 := row_frozen hres 1
        have r2 := row_frozen hres 2
        have r3 := row_frozen hres 3
        have r4 := row_frozen hres 4
        have r5 := row_frozen hres 5
        have d0 := row_cellT hrow 0 _ rfl
        have d1 := row_cellT hrow 1 _ rfl
        have d2 := row_cellT hrow 2 _ rfl
        have d3 := row_cellT hrow 3 _ rfl
        have d4 := row_cellT hrow 4 _ rfl
        have d5 := row_cellT hrow 5 _ rfl
        have z0 := row_cellT hres 0 _ rfl
        have z1 := row_cellT hres 1 _ rfl
        have z2 := row_cellT hres 2 _ rfl
        have z3 := row_cellT hres 3 _ rfl
        have z4 := row_cellT hres 4 _ rfl
        have z5 := row_cellT hres 5 _ rfl
        have hne : ¬ g = N + 1 := by have := hgN.out; omega
        have hne2 : ¬ N + 1 = g := by have := hgN.out; omega
        obtain ⟨ga, gc, rfl, hz1, hz2, hz3⟩ := HE.out.form
        clear hw HW hgw hrow hres hz1 hz2 hz3
        have hT := moved_close wr g (N + 1) (.int .i64 k) (.int .i64 n) (.int .u64 u) (.string s) (.slice va keys.length vc) (.slice ga l.length gc) (.slice ga l.length gc)
        have hTW : Grew w (store6 (wr.setCell ⟨g, 5, none⟩ (.slice ga l.length gc)) (N + 1) (.int .i64 k) (.int .i64 n) (.int .u64 u) (.string s) (.slice va keys.length vc) (.slice ga l.length gc)) := Moved.fresh (HG3.out.trans HGW.out) hT (fun q hq => by have h1 := HN.out; have h2 := hgN.out; rcases hq with rfl | rfl <;> omega)
        have hkvW : OwnS wr (N + 2) (.slice va keys.length vc) keys := HKV.out.grew HGW.out
        have hfin : OwnT (store6 (wr.setCell ⟨g, 5, none⟩ (.slice ga l.length gc)) (N + 1) (.int .i64 k) (.int .i64 n) (.int .u64 u) (.string s) (.slice va keys.length vc) (.slice ga l.length gc)) w.heap.size (.mk k n u s keys l) (.agg #[.int .i64 k, .int .i64 n, .int .u64 u, .string s, .slice va keys.length vc, .slice ga l.length gc]) (Fresh w (store6 (wr.setCell ⟨g, 5, none⟩ (.slice ga l.length gc)) (N + 1) (.int .i64 k) (.int .i64 n) (.int .u64 u) (.string s) (.slice va keys.length vc) (.slice ga l.length gc))) := by
          have h1 := HN.out
          have h2 := hgN.out
          have h3 : g < w3.heap.size := (Array.getElem?_eq_some_iff.1 HROW.out).1
          have h4 : N + 1 < w3.heap.size := (Array.getElem?_eq_some_iff.1 HB2'.out).1
          refine Grow.tree (((HE.out.wider (fun _ h => h.elim)).kept hT (fun q hq => ?_) (fun _ h => h))) ⟨HB.out.1, HB.out.2.1, HB.out.2.2.1, HB.out.2.2.2, hkz.out⟩ HG3.out.size ?_ (fun q hq => (World.ownsRow.lt HKV.out q hq).2)
          · rcases hq with rfl | rfl <;> omega
          · refine rows_base (Moved.owns hT hkvW (fun q hq e => ?_)) (by omega)
            rcases e with rfl | rfl
            · exact not_block hkvW HROWW.out (by decide) hq
            · exact not_block hkvW HRESW.out (by decide) hq
        have HFIN := Lib.hid (And.intro hfin hTW)
        clear hT hTW hfin hkvW
        go_wp2
        refine bodyPost_ret (v := .agg #[.int .i64 k, .int .i64 n, .int .u64 u, .string s, .slice va keys.length vc, .slice ga l.length gc]) (by simp [results, Try.results51, go_sem, z0, z1, z2, z3, z4, z5, hne, hne2]) rfl ?_
        exact ⟨_, rfl, HFIN.out.1, HFIN.out.2⟩
end Go.Proofs.Ytfbeepkogcmlmaa
