/-
  Plain lemma, no program: a region that leaves its order open, each of its operations with a step relation of its own.
-/
import Derived.Test.YtaoflhddcbmacaaRegion
namespace Go.Proofs.Ytaoflhddcbmacaa
set_option linter.unusedSimpArgs false
set_option linter.unusedVariables false
open Go Go.RowKit
section
variable {P : Program} {ops : Array Oper}
/-- One operation's word: whenever it comes up, with what it waits for done, it goes on with its fact. -/
def opWordT (P : Program) (ops : Array Oper) (m : Nat) (I : World → Prop) (T : Nat → World → World → Prop) (R : World → World → Prop) (D : Array (List Nat)) (Φ : Nat → (Nat → Value) → Value → World → Prop) (a0 : Act) (w0 : World) (i : Nat) (o : Oper) : Prop :=
  ∀ (y : Nat → Value) (w : World), R w0 w → (i = m → I w) → (∀ j ∈ D.getD i [], Φ j y (y j) w) → ∀ K : Act → World → Prop,
    (∀ v w', T i w w' → Φ i y v w' → K ((fillL y (canonL ops D i) a0).put o.dst v) w') →
    if Region.wanted o (yielded ops (fillL y (canonL ops D i) a0).tmps) then o.wp P (fillL y (canonL ops D i) a0) w K (fun _ _ _ => False) else K ((fillL y (canonL ops D i) a0).put o.dst undef) w

structure InvFT (ops : Array Oper) (m : Nat) (I : World → Prop) (R : World → World → Prop) (D : Array (List Nat)) (Φ : Nat → (Nat → Value) → Value → World → Prop) (a0 : Act) (w0 : World) (listed : Array Bool) (a : Act) (w : World) (y : Nat → Value) : Prop where
  size : listed.size = ops.size
  act : a = fillL y (pairsOf ops) a0
  grown : R w0 w
  pre : listed.getD m false = false → I w
  facts : ∀ j, listed.getD j false = true → Φ j y (y j) w
  open_ : ∀ j d, listed.getD j true = false → (ops[j]?).bind (·.dst) = some d → a0.put (some d) (y j) = a0
  closed : ∀ j, listed.getD j false = true → ∀ k ∈ D.getD j [], listed.getD k false = true

theorem wpAny_of_factsT {m : Nat} {I : World → Prop} {T : Nat → World → World → Prop} {R : World → World → Prop} {D : Array (List Nat)} {Φ : Nat → (Nat → Value) → Value → World → Prop} {a0 : Act} {w0 : World} {Q : Exit → Act → World → Prop}
    (hRt : ∀ {a b c : World}, R a b → R b c → R a c) (hTR : ∀ i w w', T i w w' → R w w') (hTr : ∀ i w, T i w w) (hTI : ∀ i, i ≠ m → ∀ w w', T i w w' → I w → I w') (hcg : ∀ j y y' v w, (∀ k ∈ D.getD j [], y k = y' k) → Φ j y v w → Φ j y' v w) (hchk : factsOK ops D = true) (hst : ∀ i j, i ≠ j → ∀ y v w w', T i w w' → Φ j y v w → Φ j y v w') (hrr : ∀ w, R w w)
    (hop : ∀ i o, ops[i]? = some o → opWordT P ops m I T R D Φ a0 w0 i o)
    (hfin : ∀ y w, R w0 w → (∀ j, j < ops.size → Φ j y (y j) w) → Q .normal (fillL y (pairsOf ops) a0) w) :
    ∀ (fuel : Nat) (listed : Array Bool) (a : Act) (w : World) (y : Nat → Value), ((List.range ops.size).filter fun j => !listed.getD j true).length ≤ fuel →
      InvFT ops m I R D Φ a0 w0 listed a w y → wpAny P .any ops Q fuel listed a w := by
  simp only [factsOK, Bool.and_eq_true, List.all_eq_true, List.mem_range] at hchk
  obtain ⟨hkeys, hrows⟩ := hchk
  -- nothing ready: all has been listed
  have hall : ∀ (listed : Array Bool), listed.size = ops.size → Region.ready .any ops listed = [] → ∀ j, j < ops.size → listed.getD j false = true := by
    intro listed hs hnil j
    induction j using Nat.strongRecOn with
    | ind j ih =>
      intro hj
      cases hl : listed.getD j false with
      | true => rfl
      | false =>
        exfalso
        have hmem : j ∈ Region.ready .any ops listed := by
          rw [mem_ready]
          refine ⟨by rw [listed_cases (by omega)]; exact hl, ops[j], Array.getElem?_eq_getElem hj, fun e he hb => ?_⟩
          have hrow := hrows j hj
          rw [Array.getElem?_eq_getElem hj] at hrow
          simp only [Bool.and_eq_true, List.all_eq_true, decide_eq_true_eq] at hrow
          have hlt := hrow.1 e.on (List.mem_map.2 ⟨e, List.mem_filter.2 ⟨by simpa using he, hb⟩, rfl⟩)
          exact ih e.on hlt (by omega)
        rw [hnil] at hmem
        cases hmem
  have hdone : ∀ (listed : Array Bool) (a : Act) (w : World) (y : Nat → Value), InvFT ops m I R D Φ a0 w0 listed a w y → Region.ready .any ops listed = [] → Q .normal a w := by
    intro listed a w y hI hnil
    rw [hI.act]
    exact hfin y w hI.grown (fun j hj => hI.facts j (hall listed hI.size hnil j hj))
  intro fuel
  induction fuel with
  | zero =>
    intro listed a w y hlen hI
    have hnil : Region.ready .any ops listed = [] := by
      have h0 : ((List.range ops.size).filter fun j => !listed.getD j true) = [] := List.length_eq_zero_iff.1 (by omega)
      refine List.eq_nil_iff_forall_not_mem.2 fun j hj => ?_
      have hj' := mem_ready.1 hj
      have : j ∈ ((List.range ops.size).filter fun j => !listed.getD j true) := by
        obtain ⟨hl, o, ho, _⟩ := hj'
        exact List.mem_filter.2 ⟨List.mem_range.2 (Array.getElem?_eq_some_iff.1 ho).1, by simp [hl]⟩
      rw [h0] at this
      cases this
    exact ⟨hnil, hdone listed a w y hI hnil⟩
  | succ fuel ih =>
    intro listed a w y hlen hI
    refine ⟨hdone listed a w y hI, fun i hi => ?_⟩
    obtain ⟨hun, o, ho, hedges⟩ := mem_ready.1 hi
    have hilt : i < ops.size := (Array.getElem?_eq_some_iff.1 ho).1
    have hunf : listed.getD i false = false := by rw [← listed_cases (by rw [hI.size]; exact hilt)]; exact hun
    have hrow := hrows i hilt
    rw [ho] at hrow
    simp only [Bool.and_eq_true, List.all_eq_true, decide_eq_true_eq, List.any_eq_true, Bool.or_eq_true, beq_iff_eq, List.contains_iff_mem] at hrow
    -- what i waits for has been listed
    have hD : ∀ k ∈ D.getD i [], listed.getD k false = true := by
      intro k hk
      obtain ⟨e, he, hek⟩ := hrow.2 k hk
      obtain ⟨ed, hed, rfl⟩ := List.mem_map.1 he
      obtain ⟨hed1, hed2⟩ := List.mem_filter.1 hed
      have hl := hedges ed (by simpa using hed1) hed2
      rcases hek with rfl | hek
      · exact hl
      · exact hI.closed _ hl k hek
    have hcan : fillL y (canonL ops D i) a0 = a := by
      rw [hI.act]
      refine fillL_filter y _ _ a0 hkeys ?_
      rintro ⟨d, j⟩ hq hp
      simp only [Bool.not_eq_false', Bool.or_eq_true, beq_iff_eq] at hp
      have hdst := mem_pairsOf.1 hq
      refine hI.open_ j d ?_ hdst
      rcases hp with rfl | hw
      · exact hun
      · have hjlt : j < listed.size := by
          rw [hI.size]
          rcases Nat.lt_or_ge j ops.size with h' | h'
          · exact h'
          · rw [Array.getElem?_eq_none h'] at hdst; cases hdst
        rw [listed_cases hjlt]
        cases hl : listed.getD j false with
        | false => rfl
        | true =>
          have := hI.closed j hl i (by simpa [waits] using hw)
          rw [hunf] at this
          cases this
    have hw := hop i o ho y w hI.grown (fun e => hI.pre (by rw [← e]; exact hunf)) (fun j hj => hI.facts j (hD j hj)) (fun a' w' => ∃ v, a' = a.put o.dst v ∧ T i w w' ∧ Φ i y v w')
    rw [hcan] at hw
    have hlen' : ((List.range ops.size).filter fun j => !(listed.setIfInBounds i true).getD j true).length ≤ fuel := by
      have : ((List.range ops.size).filter fun j => !(listed.setIfInBounds i true).getD j true).length < ((List.range ops.size).filter fun j => !listed.getD j true).length := by
        refine filter_lt _ i (fun j hj => ?_) (List.mem_range.2 hilt) (by rw [hun]; rfl) ?_
        · by_cases hij : i = j
          · subst hij
            have h2 : i < listed.size := by rw [hI.size]; exact hilt
            simp [h2] at hj
          · rw [getD_set_ne true hij] at hj; exact hj
        · have h2 : i < listed.size := by rw [hI.size]; exact hilt
          simp [h2]
      omega
    have hnext : ∀ v w', T i w w' → Φ i y v w' → wpAny P .any ops Q fuel (listed.setIfInBounds i true) (a.put o.dst v) w' := by
      intro v w' hr0 hφ
      have hr : R w w' := hTR _ _ _ hr0
      have hag : ∀ j, listed.getD j false = true ∨ j = i → ∀ k ∈ D.getD j [], y k = (if k = i then v else y k) := by
        intro j hj k hk
        have hkl : listed.getD k false = true := by
          rcases hj with hj | hj
          · exact hI.closed j hj k hk
          · rw [hj] at hk; exact hD k hk
        have hki : k ≠ i := fun e => by rw [e, hunf] at hkl; cases hkl
        rw [if_neg hki]
      have h2 : i < listed.size := by rw [hI.size]; exact hilt
      refine ih _ _ _ (fun k => if k = i then v else y k) hlen' ⟨by simp [hI.size], ?_, hRt hI.grown hr, fun hm => ?_, ?_, ?_, ?_⟩
      · cases hd : o.dst with
        | none =>
          rw [hI.act]
          show fillL y (pairsOf ops) a0 = _
          refine fillL_congr _ _ _ _ fun p hp => ?_
          have := mem_pairsOf.1 (show (p.1, p.2) ∈ pairsOf ops from hp)
          have hne : p.2 ≠ i := fun he => by rw [he, ho] at this; simp [hd] at this
          simp [hne]
        | some d =>
          rw [hI.act, fillL_set y i v _ a0 d hkeys (mem_pairsOf.2 (by simp [ho, hd]))]
      · by_cases him : i = m
        · subst him; simp [h2] at hm
        · rw [getD_set_ne false him] at hm
          exact hTI i him _ _ hr0 (hI.pre hm)
      · intro j hj
        by_cases hji : j = i
        · subst hji
          rw [if_pos rfl]
          exact hcg j y _ v w' (hag j (.inr rfl)) hφ
        · rw [if_neg hji]
          rw [getD_set_ne false (Ne.symm hji)] at hj
          exact hcg j y _ (y j) w' (hag j (.inl hj)) (hst i j (Ne.symm hji) y _ _ _ hr0 (hI.facts j hj))
      · intro j d hj hdst
        have hji : j ≠ i := fun he => by subst he; simp [h2] at hj
        simp only [hji, if_false]
        rw [getD_set_ne true (Ne.symm hji)] at hj
        exact hI.open_ j d hj hdst
      · intro j hj k hk
        by_cases hji : j = i
        · subst hji; exact getD_set_true (hD k hk)
        · rw [getD_set_ne false (Ne.symm hji)] at hj
          exact getD_set_true (hI.closed j hj k hk)
    unfold wpOp
    simp only [ho]
    have hw2 := hw (fun v w' hr hφ => ⟨v, rfl, hr, hφ⟩)
    split at hw2
    · rename_i hwa
      rw [if_pos hwa]
      refine .inl ?_
      have h3 : o.wp P a w (wpAny P .any ops Q fuel (listed.setIfInBounds i true)) (fun _ _ _ => False) :=
        Oper.wp_mono (fun a' w' ⟨v, he, hr, hφ⟩ => by subst he; exact hnext v w' hr hφ) hw2
      exact wp_exit h3
    · rename_i hwa
      rw [if_neg hwa]
      obtain ⟨v, he, hr, hφ⟩ := hw2
      rw [he]
      exact hnext v w hr hφ
where
  wp_exit {o : Oper} {a : Act} {w : World} {K : Act → World → Prop} {Q : Exit → Act → World → Prop} (h : o.wp P a w K (fun _ _ _ => False)) : o.wp P a w K Q := by
    unfold Oper.wp at *
    generalize (execOp a.eval o).run P w = r at *
    cases r with
    | ok n w' =>
      cases n <;> simp only [Oper.upon] at h ⊢
      case enter f args =>
        refine Calls.mono h fun e w'' he => ?_
        cases e with
        | returned v => exact he
        | panicked c => exact he.elim
        | outgrown => obtain ⟨_, _, hq⟩ := he; exact hq.elim
      all_goals exact h
    | halt x w' => cases x <;> simp only [Oper.upon] at h

/-- **A region that draws its order, by facts.** -/
theorem wp_region_factsT {id : Nat} {a0 : Act} {w0 : World} {Q : Exit → Act → World → Prop} (R : World → World → Prop) (m : Nat) (I : World → Prop) (T : Nat → World → World → Prop) (D : Array (List Nat)) (Φ : Nat → (Nat → Value) → Value → World → Prop) (hm : P.follows .mixedOrders = true)
    (hRt : ∀ {a b c : World}, R a b → R b c → R a c) (hrr : ∀ w, R w w) (hTR : ∀ i w w', T i w w' → R w w') (hTr : ∀ i w, T i w w) (hTI : ∀ i, i ≠ m → ∀ w w', T i w w' → I w → I w') (hcg : ∀ j y y' v w, (∀ k ∈ D.getD j [], y k = y' k) → Φ j y v w → Φ j y' v w) (hI0 : I w0.drew) (hd : R w0 w0.drew) (hchk : factsOK ops D = true) (hst : ∀ i j, i ≠ j → ∀ y v w w', T i w w' → Φ j y v w → Φ j y v w')
    (hop : allWords (opWordT P ops m I T R D Φ a0 w0) 0 ops.toList)
    (hfin : ∀ y w, R w0 w → (∀ j, j < ops.size → Φ j y (y j) w) → Q .normal (fillL y (pairsOf ops) a0) w) : (Code.region id ops true).wp P Q a0 w0 := by
  refine wp_region_any hm ?_
  refine wpAny_of_factsT (m := m) (I := I) (T := T) (R := R) (D := D) (Φ := Φ) (a0 := a0) (w0 := w0) hRt hTR hTr hTI hcg hchk hst hrr (fun i o ho => ?_) hfin ops.size _ a0 _ (fun j => match (ops[j]?).bind (·.dst) with | some d => a0.tmps.getD d undef | none => undef) ?_ ⟨by simp, ?_, hd, fun _ => hI0, ?_, ?_, ?_⟩
  · have := allWords_get _ 0 i o hop (by simpa using ho)
    simpa using this
  · exact Nat.le_trans (List.length_filter_le _ _) (by simp)
  · symm
    have : ∀ (L : List (Nat × Nat)), (∀ p ∈ L, (ops[p.2]?).bind (·.dst) = some p.1) → fillL (fun j => match (ops[j]?).bind (·.dst) with | some d => a0.tmps.getD d undef | none => undef) L a0 = a0 := by
      intro L
      induction L with
      | nil => intro _; rfl
      | cons p L ih =>
        intro h
        obtain ⟨d, j⟩ := p
        have hd := h (d, j) (by simp)
        simp only at hd
        show fillL _ L (a0.put (some d) _) = a0
        simp only [hd]
        rw [put_self]
        exact ih (fun p hp => h p (by simp [hp]))
    exact this _ (fun p hp => mem_pairsOf.1 hp)
  · intro j hj
    have h : (Array.replicate ops.size false).getD j false = false := by
      simp [Array.getD]
    rw [h] at hj; cases hj
  · intro j d _ hdst
    simp only [hdst]
    exact put_self a0 d
  · intro j hj
    have h : (Array.replicate ops.size false).getD j false = false := by
      simp [Array.getD]
    rw [h] at hj; cases hj


def depsT (Φ : List ((Nat → Value) → Value → World → Prop)) (y : Nat → Value) (w : World) : List Nat → Prop
  | [] => True
  | j :: r => Φ.getD j (fun _ _ _ => True) y (y j) w ∧ depsT Φ y w r
theorem depsT_of {Φ : List ((Nat → Value) → Value → World → Prop)} {y : Nat → Value} {w : World} : ∀ (d : List Nat), (∀ j ∈ d, Φ.getD j (fun _ _ _ => True) y (y j) w) → depsT Φ y w d
  | [], _ => trivial
  | j :: r, h => ⟨h j (by simp), depsT_of r (fun k hk => h k (by simp [hk]))⟩
def factsT (y : Nat → Value) (w : World) : Nat → List ((Nat → Value) → Value → World → Prop) → Prop
  | _, [] => True
  | i, φ :: r => φ y (y i) w ∧ factsT y w (i + 1) r
theorem factsT_of {Φ0 : List ((Nat → Value) → Value → World → Prop)} {y : Nat → Value} {w : World} : ∀ (Φ : List ((Nat → Value) → Value → World → Prop)) (i : Nat), (∀ k, Φ[k]? = Φ0[i + k]?) → (∀ j, j < i + Φ.length → Φ0.getD j (fun _ _ _ => True) y (y j) w) → factsT y w i Φ
  | [], _, _, _ => trivial
  | φ :: r, i, h, hj => by
    refine ⟨?_, factsT_of r (i + 1) (fun k => ?_) (fun j hj' => hj j (by simp; omega))⟩
    · have h0 := hj i (by simp)
      have := h 0
      simp at this
      simpa [List.getD_eq_getElem?_getD, ← this] using h0
    · have := h (k + 1)
      simp at this
      rw [this]; congr 1; omega
def wordT (P : Program) (ops : Array Oper) (m : Nat) (I : World → Prop) (T : Nat → World → World → Prop) (R : World → World → Prop) (Φ : List ((Nat → Value) → Value → World → Prop)) (a0 : Act) (w0 : World) (i : Nat) (o : Oper) (d : List Nat) (c : List (Nat × Nat)) : Prop :=
  ∀ (y : Nat → Value) (w : World), R w0 w → (i = m → I w) → depsT Φ y w d → ∀ K : Act → World → Prop,
    (∀ a' v w', a' = (fillL y c a0).put o.dst v → T i w w' → Φ.getD i (fun _ _ _ => True) y v w' → K a' w') →
    if Region.wanted o (yielded ops (fillL y c a0).tmps) then o.wp P (fillL y c a0) w K (fun _ _ _ => False) else K ((fillL y c a0).put o.dst undef) w

def allWT (P : Program) (ops : Array Oper) (m : Nat) (I : World → Prop) (T : Nat → World → World → Prop) (R : World → World → Prop) (Φ : List ((Nat → Value) → Value → World → Prop)) (a0 : Act) (w0 : World) : Nat → List Oper → List (List Nat) → List (List (Nat × Nat)) → Prop
  | _, [], _, _ => True
  | i, o :: r, d :: ds, c :: cs => wordT P ops m I T R Φ a0 w0 i o d c ∧ allWT P ops m I T R Φ a0 w0 (i + 1) r ds cs
  | _, _ :: _, _, _ => False

theorem allW_wordsT {m : Nat} {I : World → Prop} {T : Nat → World → World → Prop} {R : World → World → Prop} {Φ : List ((Nat → Value) → Value → World → Prop)} {a0 : Act} {w0 : World} (D0 : List (List Nat)) (C0 : List (List (Nat × Nat))) (hC : ∀ i, i < ops.size → C0.getD i [] = canonL ops D0.toArray i) :
    ∀ (l : List Oper) (i : Nat) (D : List (List Nat)) (C : List (List (Nat × Nat))), i + l.length = ops.size → (∀ k, D[k]? = D0[i + k]?) → (∀ k, C[k]? = C0[i + k]?) → allWT P ops m I T R Φ a0 w0 i l D C →
      allWords (opWordT P ops m I T R D0.toArray (fun j => Φ.getD j (fun _ _ _ => True)) a0 w0) i l := by
  intro l
  induction l with
  | nil => intros; trivial
  | cons o r ih =>
    intro i D C hl hD hC' h
    match D, C, h with
    | d :: ds, c :: cs, h =>
      obtain ⟨h1, h2⟩ := h
      refine ⟨?_, ih (i + 1) ds cs (by simp at hl; omega) (fun k => ?_) (fun k => ?_) h2⟩
      · have hd : D0.toArray.getD i [] = d := by
          have := hD 0
          simp at this
          simp [Array.getD_eq_getD_getElem?, ← this]
        have hc : canonL ops D0.toArray i = c := by
          rw [← hC i (by simp at hl; omega)]
          have := hC' 0
          simp at this
          simp [List.getD_eq_getElem?_getD, ← this]
        intro y w hR hi hj K hK
        rw [hd] at hj
        rw [hc] at hK ⊢
        exact h1 y w hR hi (depsT_of _ hj) K (fun a' v w' he hr hφ => by subst he; exact hK v w' hr hφ)
      · have := hD (k + 1)
        simp at this
        rw [this]; congr 1; omega
      · have := hC' (k + 1)
        simp at this
        rw [this]; congr 1; omega

def stLT (T : Nat → World → World → Prop) : Nat → List ((Nat → Value) → Value → World → Prop) → Prop
  | _, [] => True
  | j, φ :: r => (∀ i, i ≠ j → ∀ y v w w', T i w w' → φ y v w → φ y v w') ∧ stLT T (j + 1) r
theorem stLT_get {T : Nat → World → World → Prop} : ∀ (Φ : List ((Nat → Value) → Value → World → Prop)) (j : Nat), stLT T j Φ → ∀ k φ, Φ[k]? = some φ → ∀ i, i ≠ j + k → ∀ y v w w', T i w w' → φ y v w → φ y v w'
  | φ :: r, j, h, 0, ψ, hk => by
    simp at hk
    subst hk
    exact h.1
  | φ :: r, j, h, k + 1, ψ, hk => by
    intro i hi y v w w' hr
    exact stLT_get r (j + 1) h.2 k ψ (by simpa using hk) i (by omega) y v w w' hr
def cgLT (D : List (List Nat)) : Nat → List ((Nat → Value) → Value → World → Prop) → Prop
  | _, [] => True
  | j, φ :: r => (∀ y y' v w, (∀ k ∈ D.getD j [], y k = y' k) → φ y v w → φ y' v w) ∧ cgLT D (j + 1) r
theorem cgLT_get {D : List (List Nat)} : ∀ (Φ : List ((Nat → Value) → Value → World → Prop)) (j : Nat), cgLT D j Φ → ∀ k φ, Φ[k]? = some φ → ∀ y y' v w, (∀ q ∈ D.getD (j + k) [], y q = y' q) → φ y v w → φ y' v w
  | φ :: r, j, h, 0, ψ, hk => by
    simp at hk
    subst hk
    exact h.1
  | φ :: r, j, h, k + 1, ψ, hk => by
    intro y y' v w hq
    exact cgLT_get r (j + 1) h.2 k ψ (by simpa using hk) y y' v w (by rw [show j + 1 + k = j + (k + 1) by omega]; exact hq)
theorem cg_plain {φ : Value → World → Prop} {P0 : (Nat → Value) → (Nat → Value) → Prop} : ∀ (y y' : Nat → Value) (v : Value) (w : World), P0 y y' → (fun (_ : Nat → Value) v w => φ v w) y v w → (fun (_ : Nat → Value) v w => φ v w) y' v w := fun _ _ _ _ _ h => h
/-- **A region that draws its order, by facts, the tables written out.** -/
theorem wp_region_tablesT {id : Nat} {a0 : Act} {w0 : World} {Q : Exit → Act → World → Prop} (R : World → World → Prop) (m : Nat) (I : World → Prop) (T : Nat → World → World → Prop) (D : List (List Nat)) (C : List (List (Nat × Nat))) (F : List (Nat × Nat)) (Φ : List ((Nat → Value) → Value → World → Prop)) (hm : P.follows .mixedOrders = true)
    (hRt : ∀ {a b c : World}, R a b → R b c → R a c) (hrr : ∀ w, R w w) (hTR : ∀ i w w', T i w w' → R w w') (hTr : ∀ i w, T i w w) (hTI : ∀ i, i ≠ m → ∀ w w', T i w w' → I w → I w') (hI0 : I w0.drew) (hd : R w0 w0.drew) (hchk : tablesOK ops D C F = true) (hst : stLT T 0 Φ) (hcg : cgLT D 0 Φ)
    (hop : allWT P ops m I T R Φ a0 w0 0 ops.toList D C)
    (hlen : Φ.length = ops.size)
    (hfin : ∀ y w, R w0 w → factsT y w 0 Φ → Q .normal (fillL y F a0) w) : (Code.region id ops true).wp P Q a0 w0 := by
  simp only [tablesOK, Bool.and_eq_true, decide_eq_true_eq, List.all_eq_true, List.mem_range] at hchk
  obtain ⟨⟨h1, h2⟩, h3⟩ := hchk
  subst h2
  refine wp_region_factsT R m I T D.toArray (fun j => Φ.getD j (fun _ _ _ => True)) hm hRt hrr hTR hTr hTI ?_ hI0 hd h1 ?_ (allW_wordsT D C h3 ops.toList 0 D C (by simp) (by simp) (by simp) hop) (fun y w hr hj => hfin y w hr (factsT_of Φ 0 (by simp) (fun j h => hj j (by rw [← hlen]; simpa using h))))
  · intro j y y' v w hk hφ
    rcases Nat.lt_or_ge j Φ.length with hj | hj
    · have e : Φ.getD j (fun _ _ _ => True) = Φ[j] := by simp [List.getD_eq_getElem?_getD, hj]
      rw [e] at hφ ⊢
      refine cgLT_get Φ 0 hcg j _ (List.getElem?_eq_getElem hj) y y' v w ?_ hφ
      intro q hq
      refine hk q ?_
      rw [Nat.zero_add] at hq
      simpa [Array.getD_eq_getD_getElem?, List.getD_eq_getElem?_getD] using hq
    · have e : Φ.getD j (fun _ _ _ => True) = fun _ _ _ => True := by simp [List.getD_eq_getElem?_getD, hj]
      rw [e]; trivial
  · intro i j hij y v w w' hr hφ
    rcases Nat.lt_or_ge j Φ.length with hj | hj
    · have e : Φ.getD j (fun _ _ _ => True) = Φ[j] := by simp [List.getD_eq_getElem?_getD, hj]
      rw [e] at hφ ⊢
      exact stLT_get Φ 0 hst j _ (List.getElem?_eq_getElem hj) i (by rw [Nat.zero_add]; exact hij) y v w w' hr hφ
    · have e : Φ.getD j (fun _ _ _ => True) = fun _ _ _ => True := by simp [List.getD_eq_getElem?_getD, hj]
      rw [e]; trivial

end
end Go.Proofs.Ytaoflhddcbmacaa
