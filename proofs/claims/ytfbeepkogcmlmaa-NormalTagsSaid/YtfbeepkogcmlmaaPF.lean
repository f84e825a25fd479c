/-
  Texts of the proof, part 6 of 8.
-/
import Derived.Test.YtfbeepkogcmlmaaPD
import Derived.Test.YtfbeepkogcmlmaaPE
import Derived.Test.YtfbeepkogcmlmaaPC
import Derived.Deep.RegionWith
import Derived.Deep.CutBlock
import Derived.Deep.DeepCutAuto
import Derived.Test.YtfbeepkogcmlmaaPB

/-
  Plain lemma, no program: a region that leaves its order open, one of whose operations writes to memory made here.
-/
namespace Go.Proofs.Ytfbeepkogcmlmaa
set_option linter.unusedSimpArgs false
set_option linter.unusedVariables false
open Go Go.RowKit
section
variable {P : Program} {ops : Array Oper}
/-- One operation's word: ahead of the write (D m) in the world as it grows; the write; beside it, whatever the world, with no world touched. -/
def opWordM (P : Program) (ops : Array Oper) (m a b : Nat) (Tm : Value → Value → World → World → Prop) (R : World → World → Prop) (D : Array (List Nat)) (Φ : Nat → Value → World → Prop) (a0 : Act) (w0 : World) (i : Nat) (o : Oper) : Prop :=
  ∀ (y : Nat → Value) (wg w : World), R w0 wg → ((D.getD m []).contains i = true ∨ i = m → w = wg) → (∀ j ∈ D.getD i [], Φ j (y j) wg) → ∀ K : Act → World → Prop,
    (∀ v w', (if i = m then Tm (y a) (y b) wg w' else if (D.getD m []).contains i then R wg w' else w' = w) → Φ i v (if i = m then wg else if (D.getD m []).contains i then w' else wg) → K ((fillL y (canonL ops D i) a0).put o.dst v) w') →
    if Region.wanted o (yielded ops (fillL y (canonL ops D i) a0).tmps) then o.wp P (fillL y (canonL ops D i) a0) w K (fun _ _ _ => False) else K ((fillL y (canonL ops D i) a0).put o.dst undef) w

structure InvM (ops : Array Oper) (m a b : Nat) (Tm : Value → Value → World → World → Prop) (R : World → World → Prop) (D : Array (List Nat)) (Φ : Nat → Value → World → Prop) (a0 : Act) (w0 wg : World) (listed : Array Bool) (act : Act) (w : World) (y : Nat → Value) : Prop where
  size : listed.size = ops.size
  act : act = fillL y (pairsOf ops) a0
  grown : R w0 wg
  early : listed.getD m false = false → w = wg
  late : listed.getD m false = true → Tm (y a) (y b) wg w
  facts : ∀ j, listed.getD j false = true → Φ j (y j) wg
  open_ : ∀ j d, listed.getD j true = false → (ops[j]?).bind (·.dst) = some d → a0.put (some d) (y j) = a0
  closed : ∀ j, listed.getD j false = true → ∀ k ∈ D.getD j [], listed.getD k false = true

theorem wpAny_of_factsM {m a b : Nat} {Tm : Value → Value → World → World → Prop} {R : World → World → Prop} {D : Array (List Nat)} {Φ : Nat → Value → World → Prop} {a0 : Act} {w0 : World} {Q : Exit → Act → World → Prop}
    (hRt : ∀ {a b c : World}, R a b → R b c → R a c) (hchk : factsOK ops D = true) (hst : ∀ j v w w', R w w' → Φ j v w → Φ j v w') (hrr : ∀ w, R w w) (ha : (D.getD m []).contains a = true) (hb : (D.getD m []).contains b = true) (hmm : (D.getD m []).contains m = false) (hms : m < ops.size)
    (hop : ∀ i o, ops[i]? = some o → opWordM P ops m a b Tm R D Φ a0 w0 i o)
    (hfin : ∀ y wg w, R w0 wg → Tm (y a) (y b) wg w → (∀ j, j < ops.size → Φ j (y j) wg) → Q .normal (fillL y (pairsOf ops) a0) w) :
    ∀ (fuel : Nat) (listed : Array Bool) (act : Act) (w : World) (y : Nat → Value) (wg : World), ((List.range ops.size).filter fun j => !listed.getD j true).length ≤ fuel →
      InvM ops m a b Tm R D Φ a0 w0 wg listed act w y → wpAny P .any ops Q fuel listed act w := by
  simp only [factsOK, Bool.and_eq_true, List.all_eq_true, List.mem_range] at hchk
  obtain ⟨hkeys, hrows⟩ := hchk
  -- nothing ready: all has been listed
  have hall : ∀ (listed : Array Bool), listed.size = ops.size → Region.ready .any ops listed = [] → ∀ j, j < ops.size → listed.getD j false = true := by
    intro listed hs hnil j
    induction j using Nat.strongRecOn with
    | ind j ih =>
      intro hj
      cases hl : listed.getD j false with
      | true => rfl
      | false =>
        exfalso
        have hmem : j ∈ Region.ready .any ops listed := by
          rw [mem_ready]
          refine ⟨by rw [listed_cases (by omega)]; exact hl, ops[j], Array.getElem?_eq_getElem hj, fun e he hb => ?_⟩
          have hrow := hrows j hj
          rw [Array.getElem?_eq_getElem hj] at hrow
          simp only [Bool.and_eq_true, List.all_eq_true, decide_eq_true_eq] at hrow
          have hlt := hrow.1 e.on (List.mem_map.2 ⟨e, List.mem_filter.2 ⟨by simpa using he, hb⟩, rfl⟩)
          exact ih e.on hlt (by omega)
        rw [hnil] at hmem
        cases hmem
  have hdone : ∀ (listed : Array Bool) (act : Act) (w : World) (y : Nat → Value) (wg : World), InvM ops m a b Tm R D Φ a0 w0 wg listed act w y → Region.ready .any ops listed = [] → Q .normal act w := by
    intro listed act w y wg hI hnil
    rw [hI.act]
    exact hfin y wg w hI.grown (hI.late (hall listed hI.size hnil m hms)) (fun j hj => hI.facts j (hall listed hI.size hnil j hj))
  intro fuel
  induction fuel with
  | zero =>
    intro listed act w y wg hlen hI
    have hnil : Region.ready .any ops listed = [] := by
      have h0 : ((List.range ops.size).filter fun j => !listed.getD j true) = [] := List.length_eq_zero_iff.1 (by omega)
      refine List.eq_nil_iff_forall_not_mem.2 fun j hj => ?_
      have hj' := mem_ready.1 hj
      have : j ∈ ((List.range ops.size).filter fun j => !listed.getD j true) := by
        obtain ⟨hl, o, ho, _⟩ := hj'
        exact List.mem_filter.2 ⟨List.mem_range.2 (Array.getElem?_eq_some_iff.1 ho).1, by simp [hl]⟩
      rw [h0] at this
      cases this
    exact ⟨hnil, hdone listed act w y wg hI hnil⟩
  | succ fuel ih =>
    intro listed act w y wg hlen hI
    refine ⟨hdone listed act w y wg hI, fun i hi => ?_⟩
    obtain ⟨hun, o, ho, hedges⟩ := mem_ready.1 hi
    have hilt : i < ops.size := (Array.getElem?_eq_some_iff.1 ho).1
    have hunf : listed.getD i false = false := by rw [← listed_cases (by rw [hI.size]; exact hilt)]; exact hun
    have hrow := hrows i hilt
    rw [ho] at hrow
    simp only [Bool.and_eq_true, List.all_eq_true, decide_eq_true_eq, List.any_eq_true, Bool.or_eq_true, beq_iff_eq, List.contains_iff_mem] at hrow
    -- what i waits for has been listed
    have hD : ∀ k ∈ D.getD i [], listed.getD k false = true := by
      intro k hk
      obtain ⟨e, he, hek⟩ := hrow.2 k hk
      obtain ⟨ed, hed, rfl⟩ := List.mem_map.1 he
      obtain ⟨hed1, hed2⟩ := List.mem_filter.1 hed
      have hl := hedges ed (by simpa using hed1) hed2
      rcases hek with rfl | hek
      · exact hl
      · exact hI.closed _ hl k hek
    have hcan : fillL y (canonL ops D i) a0 = act := by
      rw [hI.act]
      refine fillL_filter y _ _ a0 hkeys ?_
      rintro ⟨d, j⟩ hq hp
      simp only [Bool.not_eq_false', Bool.or_eq_true, beq_iff_eq] at hp
      have hdst := mem_pairsOf.1 hq
      refine hI.open_ j d ?_ hdst
      rcases hp with rfl | hw
      · exact hun
      · have hjlt : j < listed.size := by
          rw [hI.size]
          rcases Nat.lt_or_ge j ops.size with h' | h'
          · exact h'
          · rw [Array.getElem?_eq_none h'] at hdst; cases hdst
        rw [listed_cases hjlt]
        cases hl : listed.getD j false with
        | false => rfl
        | true =>
          have := hI.closed j hl i (by simpa [waits] using hw)
          rw [hunf] at this
          cases this
    have hmun : (D.getD m []).contains i = true ∨ i = m → listed.getD m false = false := by
      rintro (h | h)
      · cases hl : listed.getD m false with
        | false => rfl
        | true =>
          have := hI.closed m hl i (by simpa using h)
          rw [hunf] at this; cases this
      · rw [← h]; exact hunf
    have hw := hop i o ho y wg w hI.grown (fun e => hI.early (hmun e)) (fun j hj => hI.facts j (hD j hj)) (fun a' w' => ∃ v, a' = act.put o.dst v ∧ (if i = m then Tm (y a) (y b) wg w' else if (D.getD m []).contains i then R wg w' else w' = w) ∧ Φ i v (if i = m then wg else if (D.getD m []).contains i then w' else wg))
    rw [hcan] at hw
    have hlen' : ((List.range ops.size).filter fun j => !(listed.setIfInBounds i true).getD j true).length ≤ fuel := by
      have : ((List.range ops.size).filter fun j => !(listed.setIfInBounds i true).getD j true).length < ((List.range ops.size).filter fun j => !listed.getD j true).length := by
        refine filter_lt _ i (fun j hj => ?_) (List.mem_range.2 hilt) (by rw [hun]; rfl) ?_
        · by_cases hij : i = j
          · subst hij
            have h2 : i < listed.size := by rw [hI.size]; exact hilt
            simp [h2] at hj
          · rw [getD_set_ne true hij] at hj; exact hj
        · have h2 : i < listed.size := by rw [hI.size]; exact hilt
          simp [h2]
      omega
    have hnext : ∀ v w', (if i = m then Tm (y a) (y b) wg w' else if (D.getD m []).contains i then R wg w' else w' = w) → Φ i v (if i = m then wg else if (D.getD m []).contains i then w' else wg) → wpAny P .any ops Q fuel (listed.setIfInBounds i true) (act.put o.dst v) w' := by
      intro v w' hT hφ
      have h2 : i < listed.size := by rw [hI.size]; exact hilt
      obtain ⟨wg', hwg'⟩ : ∃ wg', (if i = m then wg else if (D.getD m []).contains i then w' else wg) = wg' := ⟨_, rfl⟩
      rw [hwg'] at hφ
      have hR : R wg wg' := by
        rw [← hwg']
        by_cases him : i = m
        · rw [if_pos him]; exact hrr _
        · rw [if_neg him] at hT ⊢
          split
          · rename_i hc; rw [if_pos hc] at hT; exact hT
          · exact hrr _
      have hai : (D.getD m []).contains i = false → a ≠ i ∧ b ≠ i := fun h => ⟨fun e => (by rw [e, h] at ha; cases ha), fun e => (by rw [e, h] at hb; cases hb)⟩
      refine ih _ _ _ (fun k => if k = i then v else y k) wg' hlen' ⟨by simp [hI.size], ?_, hRt hI.grown hR, fun hm => ?_, fun hm => ?_, ?_, ?_, ?_⟩
      · cases hd : o.dst with
        | none =>
          rw [hI.act]
          show fillL y (pairsOf ops) a0 = _
          refine fillL_congr _ _ _ _ fun p hp => ?_
          have := mem_pairsOf.1 (show (p.1, p.2) ∈ pairsOf ops from hp)
          have hne : p.2 ≠ i := fun he => by rw [he, ho] at this; simp [hd] at this
          simp [hne]
        | some d =>
          rw [hI.act, fillL_set y i v _ a0 d hkeys (mem_pairsOf.2 (by simp [ho, hd]))]
      · by_cases him : i = m
        · subst him; simp [h2] at hm
        · rw [getD_set_ne false him] at hm
          rw [if_neg him] at hT hwg'
          have hw0 := hI.early hm
          split at hT
          · rename_i hc; rw [if_pos hc] at hwg'; exact hwg'
          · rename_i hc; rw [if_neg hc] at hwg'; rw [hT, hw0, hwg']
      · by_cases him : i = m
        · rw [if_pos him] at hT hwg'
          have h3 := hai (by rw [him]; exact hmm)
          simp only [if_neg h3.1, if_neg h3.2]
          rw [← hwg']; exact hT
        · rw [getD_set_ne false him] at hm
          rw [if_neg him] at hT hwg'
          have hcf : (D.getD m []).contains i = false := by
            cases hc : (D.getD m []).contains i with
            | false => rfl
            | true => have := hmun (.inl hc); rw [hm] at this; cases this
          rw [if_neg (by rw [hcf]; decide)] at hT hwg'
          have h3 := hai hcf
          simp only [if_neg h3.1, if_neg h3.2]
          rw [← hwg', hT]; exact hI.late hm
      · intro j hj
        by_cases hji : j = i
        · subst hji
          rw [if_pos rfl]
          exact hφ
        · rw [if_neg hji]
          rw [getD_set_ne false (Ne.symm hji)] at hj
          exact hst j (y j) _ _ hR (hI.facts j hj)
      · intro j d hj hdst
        have hji : j ≠ i := fun he => by subst he; simp [h2] at hj
        simp only [hji, if_false]
        rw [getD_set_ne true (Ne.symm hji)] at hj
        exact hI.open_ j d hj hdst
      · intro j hj k hk
        by_cases hji : j = i
        · subst hji; exact getD_set_true (hD k hk)
        · rw [getD_set_ne false (Ne.symm hji)] at hj
          exact getD_set_true (hI.closed j hj k hk)
    unfold wpOp
    simp only [ho]
    have hw2 := hw (fun v w' hr hφ => ⟨v, rfl, hr, hφ⟩)
    split at hw2
    · rename_i hwa
      rw [if_pos hwa]
      refine .inl ?_
      have h3 : o.wp P act w (wpAny P .any ops Q fuel (listed.setIfInBounds i true)) (fun _ _ _ => False) :=
        Oper.wp_mono (fun a' w' ⟨v, he, hr, hφ⟩ => by subst he; exact hnext v w' hr hφ) hw2
      exact wp_exit h3
    · rename_i hwa
      rw [if_neg hwa]
      obtain ⟨v, he, hr, hφ⟩ := hw2
      rw [he]
      exact hnext v w hr hφ
where
  wp_exit {o : Oper} {a : Act} {w : World} {K : Act → World → Prop} {Q : Exit → Act → World → Prop} (h : o.wp P a w K (fun _ _ _ => False)) : o.wp P a w K Q := by
    unfold Oper.wp at *
    generalize (execOp a.eval o).run P w = r at *
    cases r with
    | ok n w' =>
      cases n <;> simp only [Oper.upon] at h ⊢
      case enter f args =>
        refine Calls.mono h fun e w'' he => ?_
        cases e with
        | returned v => exact he
        | panicked c => exact he.elim
        | outgrown => obtain ⟨_, _, hq⟩ := he; exact hq.elim
      all_goals exact h
    | halt x w' => cases x <;> simp only [Oper.upon] at h

/-- **A region that draws its order, one of its operations a write.** -/
theorem wp_region_factsM {id : Nat} {a0 : Act} {w0 : World} {Q : Exit → Act → World → Prop} (R : World → World → Prop) (m a b : Nat) (Tm : Value → Value → World → World → Prop) (D : Array (List Nat)) (Φ : Nat → Value → World → Prop) (hm : P.follows .mixedOrders = true)
    (hRt : ∀ {a b c : World}, R a b → R b c → R a c) (hrr : ∀ w, R w w) (hd : R w0 w0.drew) (hchk : factsOK ops D = true) (hst : ∀ j v w w', R w w' → Φ j v w → Φ j v w')
    (ha : (D.getD m []).contains a = true) (hb : (D.getD m []).contains b = true) (hmm : (D.getD m []).contains m = false) (hms : m < ops.size)
    (hop : allWords (opWordM P ops m a b Tm R D Φ a0 w0) 0 ops.toList)
    (hfin : ∀ y wg w, R w0 wg → Tm (y a) (y b) wg w → (∀ j, j < ops.size → Φ j (y j) wg) → Q .normal (fillL y (pairsOf ops) a0) w) : (Code.region id ops true).wp P Q a0 w0 := by
  refine wp_region_any hm ?_
  refine wpAny_of_factsM (m := m) (a := a) (b := b) (Tm := Tm) (R := R) (D := D) (Φ := Φ) (a0 := a0) (w0 := w0) hRt hchk hst hrr ha hb hmm hms (fun i o ho => ?_) hfin ops.size _ a0 _ (fun j => match (ops[j]?).bind (·.dst) with | some d => a0.tmps.getD d undef | none => undef) _ ?_ ⟨by simp, ?_, hd, fun _ => rfl, fun h => ?_, ?_, ?_, ?_⟩
  · have := allWords_get _ 0 i o hop (by simpa using ho)
    simpa using this
  · exact Nat.le_trans (List.length_filter_le _ _) (by simp)
  · symm
    have : ∀ (L : List (Nat × Nat)), (∀ p ∈ L, (ops[p.2]?).bind (·.dst) = some p.1) → fillL (fun j => match (ops[j]?).bind (·.dst) with | some d => a0.tmps.getD d undef | none => undef) L a0 = a0 := by
      intro L
      induction L with
      | nil => intro _; rfl
      | cons p L ih =>
        intro h
        obtain ⟨d, j⟩ := p
        have hd := h (d, j) (by simp)
        simp only at hd
        show fillL _ L (a0.put (some d) _) = a0
        simp only [hd]
        rw [put_self]
        exact ih (fun p hp => h p (by simp [hp]))
    exact this _ (fun p hp => mem_pairsOf.1 hp)
  · have h' : (Array.replicate ops.size false).getD m false = false := by
      simp [Array.getD]
    rw [h'] at h; cases h
  · intro j hj
    have h : (Array.replicate ops.size false).getD j false = false := by
      simp [Array.getD]
    rw [h] at hj; cases hj
  · intro j d _ hdst
    simp only [hdst]
    exact put_self a0 d
  · intro j hj
    have h : (Array.replicate ops.size false).getD j false = false := by
      simp [Array.getD]
    rw [h] at hj; cases hj


/-- The written-out words. -/
def wordM (P : Program) (ops : Array Oper) (m a b : Nat) (Dm : List Nat) (Tm : Value → Value → World → World → Prop) (R : World → World → Prop) (Φ : List (Value → World → Prop)) (a0 : Act) (w0 : World) (i : Nat) (o : Oper) (d : List Nat) (c : List (Nat × Nat)) : Prop :=
  if i = m then ∀ (y : Nat → Value) (w : World), R w0 w → depsH Φ y w d → ∀ K : Act → World → Prop,
    (∀ a' v w', a' = (fillL y c a0).put o.dst v → Tm (y a) (y b) w w' → Φ.getD i (fun _ _ => True) v w → K a' w') →
    if Region.wanted o (yielded ops (fillL y c a0).tmps) then o.wp P (fillL y c a0) w K (fun _ _ _ => False) else K ((fillL y c a0).put o.dst undef) w
  else if Dm.contains i then word P ops R Φ a0 w0 i o d c
  else ∀ (y : Nat → Value) (wg w : World), R w0 wg → depsH Φ y wg d → ∀ K : Act → World → Prop,
    (∀ a' v w', a' = (fillL y c a0).put o.dst v → w' = w → Φ.getD i (fun _ _ => True) v wg → K a' w') →
    if Region.wanted o (yielded ops (fillL y c a0).tmps) then o.wp P (fillL y c a0) w K (fun _ _ _ => False) else K ((fillL y c a0).put o.dst undef) w
theorem wordM_at {m a b : Nat} {Dm : List Nat} {Tm : Value → Value → World → World → Prop} {R : World → World → Prop} {Φ : List (Value → World → Prop)} {a0 : Act} {w0 : World} {i : Nat} {o : Oper} {d : List Nat} {c : List (Nat × Nat)} (hi : i = m)
    (h : ∀ (y : Nat → Value) (w : World), R w0 w → depsH Φ y w d → ∀ K : Act → World → Prop,
    (∀ a' v w', a' = (fillL y c a0).put o.dst v → Tm (y a) (y b) w w' → Φ.getD i (fun _ _ => True) v w → K a' w') →
    if Region.wanted o (yielded ops (fillL y c a0).tmps) then o.wp P (fillL y c a0) w K (fun _ _ _ => False) else K ((fillL y c a0).put o.dst undef) w) : wordM P ops m a b Dm Tm R Φ a0 w0 i o d c := by
  unfold wordM; rw [if_pos hi]; exact h
theorem wordM_early {m a b : Nat} {Dm : List Nat} {Tm : Value → Value → World → World → Prop} {R : World → World → Prop} {Φ : List (Value → World → Prop)} {a0 : Act} {w0 : World} {i : Nat} {o : Oper} {d : List Nat} {c : List (Nat × Nat)} (hi : ¬ i = m) (hc : Dm.contains i = true)
    (h : word P ops R Φ a0 w0 i o d c) : wordM P ops m a b Dm Tm R Φ a0 w0 i o d c := by
  unfold wordM; rw [if_neg hi, if_pos hc]; exact h
theorem wordM_beside {m a b : Nat} {Dm : List Nat} {Tm : Value → Value → World → World → Prop} {R : World → World → Prop} {Φ : List (Value → World → Prop)} {a0 : Act} {w0 : World} {i : Nat} {o : Oper} {d : List Nat} {c : List (Nat × Nat)} (hi : ¬ i = m) (hc : Dm.contains i = false)
    (h : ∀ (y : Nat → Value) (wg w : World), R w0 wg → depsH Φ y wg d → ∀ K : Act → World → Prop,
    (∀ a' v w', a' = (fillL y c a0).put o.dst v → w' = w → Φ.getD i (fun _ _ => True) v wg → K a' w') →
    if Region.wanted o (yielded ops (fillL y c a0).tmps) then o.wp P (fillL y c a0) w K (fun _ _ _ => False) else K ((fillL y c a0).put o.dst undef) w) : wordM P ops m a b Dm Tm R Φ a0 w0 i o d c := by
  unfold wordM; rw [if_neg hi, if_neg (by rw [hc]; decide)]; exact h
def allWM (P : Program) (ops : Array Oper) (m a b : Nat) (Dm : List Nat) (Tm : Value → Value → World → World → Prop) (R : World → World → Prop) (Φ : List (Value → World → Prop)) (a0 : Act) (w0 : World) : Nat → List Oper → List (List Nat) → List (List (Nat × Nat)) → Prop
  | _, [], _, _ => True
  | i, o :: r, d :: ds, c :: cs => wordM P ops m a b Dm Tm R Φ a0 w0 i o d c ∧ allWM P ops m a b Dm Tm R Φ a0 w0 (i + 1) r ds cs
  | _, _ :: _, _, _ => False
theorem allW_wordsM {m a b : Nat} {Tm : Value → Value → World → World → Prop} {R : World → World → Prop} {Φ : List (Value → World → Prop)} {a0 : Act} {w0 : World} (D0 : List (List Nat)) (C0 : List (List (Nat × Nat))) (hC : ∀ i, i < ops.size → C0.getD i [] = canonL ops D0.toArray i) :
    ∀ (l : List Oper) (i : Nat) (D : List (List Nat)) (C : List (List (Nat × Nat))), i + l.length = ops.size → (∀ k, D[k]? = D0[i + k]?) → (∀ k, C[k]? = C0[i + k]?) → allWM P ops m a b (D0.getD m []) Tm R Φ a0 w0 i l D C →
      allWords (opWordM P ops m a b Tm R D0.toArray (fun j => Φ.getD j (fun _ _ => True)) a0 w0) i l := by
  intro l
  induction l with
  | nil => intros; trivial
  | cons o r ih =>
    intro i D C hl hD hC' h
    match D, C, h with
    | d :: ds, c :: cs, h =>
      obtain ⟨h1, h2⟩ := h
      refine ⟨?_, ih (i + 1) ds cs (by simp at hl; omega) (fun k => ?_) (fun k => ?_) h2⟩
      · have hd : D0.toArray.getD i [] = d := by
          have := hD 0
          simp at this
          simp [Array.getD_eq_getD_getElem?, ← this]
        have hc : canonL ops D0.toArray i = c := by
          rw [← hC i (by simp at hl; omega)]
          have := hC' 0
          simp at this
          simp [List.getD_eq_getElem?_getD, ← this]
        have hDm : D0.toArray.getD m [] = D0.getD m [] := by simp [Array.getD_eq_getD_getElem?, List.getD_eq_getElem?_getD]
        intro y wg w hR hwg hj K hK
        rw [hd] at hj
        rw [hc] at hK ⊢
        rw [hDm] at hwg hK
        unfold wordM at h1
        by_cases him : i = m
        · rw [if_pos him] at h1
          simp only [if_pos him] at hK
          obtain rfl := hwg (.inr him)
          exact h1 y w hR (depsH_of _ hj) K (fun a' v w' he hr hφ => by subst he; exact hK v w' hr hφ)
        · rw [if_neg him] at h1
          simp only [if_neg him] at hK
          by_cases hc' : (D0.getD m []).contains i = true
          · rw [if_pos hc'] at h1
            simp only [if_pos hc'] at hK
            obtain rfl := hwg (.inl hc')
            exact h1 y w hR (depsH_of _ hj) K (fun a' v w' he hr hφ => by subst he; exact hK v w' hr hφ)
          · rw [if_neg hc'] at h1
            simp only [if_neg hc'] at hK
            exact h1 y wg w hR (depsH_of _ hj) K (fun a' v w' he hr hφ => by subst he; exact hK v w' hr hφ)
      · have := hD (k + 1)
        simp at this
        rw [this]; congr 1; omega
      · have := hC' (k + 1)
        simp at this
        rw [this]; congr 1; omega
/-- **A region that draws its order, one of its operations (m) a write, the tables written out.** -/
theorem wp_region_tablesM {id : Nat} {a0 : Act} {w0 : World} {Q : Exit → Act → World → Prop} (R : World → World → Prop) (m a b : Nat) (Tm : Value → Value → World → World → Prop) (D : List (List Nat)) (C : List (List (Nat × Nat))) (F : List (Nat × Nat)) (Φ : List (Value → World → Prop)) (hm : P.follows .mixedOrders = true)
    (hRt : ∀ {a b c : World}, R a b → R b c → R a c) (hrr : ∀ w, R w w) (hd : R w0 w0.drew) (hchk : tablesOK ops D C F = true) (hst : stL R Φ)
    (ha : (D.getD m []).contains a = true) (hb : (D.getD m []).contains b = true) (hmm : (D.getD m []).contains m = false) (hms : m < Φ.length)
    (hlen : Φ.length = ops.size)
    (hop : allWM P ops m a b (D.getD m []) Tm R Φ a0 w0 0 ops.toList D C)
    (hfin : ∀ y wg w, R w0 wg → Tm (y a) (y b) wg w → factsH y wg 0 Φ → Q .normal (fillL y F a0) w) : (Code.region id ops true).wp P Q a0 w0 := by
  simp only [tablesOK, Bool.and_eq_true, decide_eq_true_eq, List.all_eq_true, List.mem_range] at hchk
  obtain ⟨⟨h1, h2⟩, h3⟩ := hchk
  subst h2
  have hDm : D.toArray.getD m [] = D.getD m [] := by simp [Array.getD_eq_getD_getElem?, List.getD_eq_getElem?_getD]
  refine wp_region_factsM R m a b Tm D.toArray (fun j => Φ.getD j (fun _ _ => True)) hm hRt hrr hd h1 ?_ (by rw [hDm]; exact ha) (by rw [hDm]; exact hb) (by rw [hDm]; exact hmm) (by omega) (allW_wordsM D C h3 ops.toList 0 D C (by simp) (by simp) (by simp) hop) (fun y wg w hr hT hj => hfin y wg w hr hT (factsH_of Φ 0 (by simp) (fun j h => hj j (by rw [← hlen]; simpa using h))))
  intro j v w w' hr hφ
  rcases Nat.lt_or_ge j Φ.length with hj | hj
  · have e : Φ.getD j (fun _ _ => True) = Φ[j] := by simp [List.getD_eq_getElem?_getD, hj]
    rw [e] at hφ ⊢
    exact stL_mem Φ hst _ (List.getElem_mem hj) v w w' hr hφ
  · have e : Φ.getD j (fun _ _ => True) = fun _ _ => True := by simp [List.getD_eq_getElem?_getD, hj]
    rw [e]; trivial
end
end Go.Proofs.Ytfbeepkogcmlmaa

/-
  Keys: Sorted, and the small functions of the examples. Conditions: the arguments can be read.
-/
namespace Go.Proofs.Ytfbeepkogcmlmaa
open Go Go.ChangeShapes Go.WideShapes Go.ChangeAt Go.RowKit Go.Joins Go.Deep
set_option linter.unusedVariables false
set_option linter.unusedSimpArgs false

/-- A tree's node, read. -/
def Nd (t : Tr) (v : Value) (w : World) : Prop := NodeAt w t v
theorem Nd.st (t : Tr) : ∀ v w w', Grew w w' → Nd t v w → Nd t v w' := fun _ _ _ hg h => NodeAt.grew hg h
def Ss (l : List ByteArray) (v : Value) (w : World) : Prop := StrsAt w v l
theorem Ss.st (l : List ByteArray) : ∀ v w w', Grew w w' → Ss l v w → Ss l v w' := fun _ _ _ hg h => StrsAt.grew h hg
def Rn (ts : List Tr) (v : Value) (w : World) : Prop := ∃ vs, RowsAt w v vs ∧ KidsAt w ts vs
theorem Rn.st (ts : List Tr) : ∀ v w w', Grew w w' → Rn ts v w → Rn ts v w' := fun _ _ _ hg ⟨vs, h, k⟩ => ⟨vs, h.grew hg, k.grew hg⟩
def Ri (l : List Int) (v : Value) (w : World) : Prop := RowI w v l
theorem RowI.grew {w w' : World} {v : Value} {l : List Int} (h : RowI w v l) (hg : Grew w w') : RowI w' v l := by
  obtain ⟨a, c, h1, h2, h3, h4, h5⟩ := h
  refine ⟨a, c, h1, h2, h3, h4, fun i x hx => ?_⟩
  obtain ⟨_, b, off, e, hc⟩ := h5 i x hx
  exact ⟨trivial, b, off, e, hg.cell hc⟩
theorem Ri.st (l : List Int) : ∀ v w w', Grew w w' → Ri l v w → Ri l v w' := fun _ _ _ hg h => RowI.grew h hg
theorem StrsAt.form {w : World} {v : Value} {l : List ByteArray} (h : StrsAt w v l) : ∃ a c, v = .slice a l.length c := by
  obtain ⟨a, c, e, _⟩ := h; exact ⟨a, c, e⟩
theorem RowsAt.form {w : World} {v : Value} {vs : List Value} (h : RowsAt w v vs) : ∃ a c, v = .slice a vs.length c := by
  obtain ⟨a, c, e, _⟩ := h; exact ⟨a, c, e⟩
theorem StrsAt.nil (w : World) : StrsAt w (.slice none 0 0) [] := ⟨none, 0, rfl, by simp, by unfold lenok; omega, fun _ => rfl, by simp⟩
theorem RowsAt.nil (w : World) : RowsAt w (.slice none 0 0) [] := ⟨none, 0, rfl, by simp, by unfold lenok; omega, fun _ => rfl, by simp⟩
theorem RowI.nil (w : World) : RowI w (.slice none 0 0) [] := ⟨none, 0, rfl, by simp, by unfold lenok; omega, fun _ => rfl, by simp⟩
theorem built_strs (w : World) (l : List ByteArray) (hz : ∀ s ∈ l, lenok s.size) (hl : l.length ≤ 4096) : Ss l (.slice (some ⟨w.heap.size, 0, none⟩) l.length l.length) (w.alloc (.cells (l.map Value.string).toArray 9)) := by
  refine ⟨some ⟨w.heap.size, 0, none⟩, l.length, rfl, Nat.le_refl _, by unfold lenok; omega, fun h => (by cases h), fun i s hs => ⟨hz s (List.mem_of_getElem? hs), w.heap.size, 0, rfl, ?_⟩⟩
  rw [cell_of_row _ _ _ _ _ _ (heap_alloc_new _ _)]
  simp [hs]
theorem built_ints (w : World) (l : List Int) (hl : l.length ≤ 4096) : Ri l (.slice (some ⟨w.heap.size, 0, none⟩) l.length l.length) (w.alloc (.cells (l.map (Value.int .i64)).toArray 3)) := by
  refine ⟨some ⟨w.heap.size, 0, none⟩, l.length, rfl, Nat.le_refl _, by unfold lenok; omega, fun h => (by cases h), fun i s hs => ⟨trivial, w.heap.size, 0, rfl, ?_⟩⟩
  rw [cell_of_row _ _ _ _ _ _ (heap_alloc_new _ _)]
  simp [hs]
theorem built_nodes (w : World) (ts : List Tr) (vs : List Value) (h6 : ∀ x ∈ vs, Node6 x) (hk : KidsAt w ts vs) (hl : vs.length ≤ 4096) : Rn ts (.slice (some ⟨w.heap.size, 0, none⟩) vs.length vs.length) (w.alloc (.cells (vs.flatMap cells6).toArray 26)) := by
  refine ⟨vs, ⟨some ⟨w.heap.size, 0, none⟩, vs.length, rfl, Nat.le_refl _, by unfold lenok; omega, fun h => (by cases h), fun i x hx => ⟨w.heap.size, 0, rfl, ?_⟩⟩, hk.grew ((Grew.refl _).alloc _)⟩
  have hr : ∀ o, (w.alloc (.cells (vs.flatMap cells6).toArray 26)).cell? ⟨w.heap.size, o, none⟩ = (vs.flatMap cells6)[o]? := fun o => by
    rw [cell_of_row _ _ _ _ _ _ (heap_alloc_new _ _)]; simp
  obtain ⟨k, n, u, s, a4, n4, c4, a5, n5, c5, rfl⟩ := h6 x (List.mem_of_getElem? hx)
  refine ⟨_, _, _, _, _, _, rfl, ?_, ?_, ?_, ?_, ?_, ?_⟩ <;> rw [hr, Nat.zero_add]
  · exact flat6_get h6 hx 0 (by decide)
  · exact flat6_get h6 hx 1 (by decide)
  · exact flat6_get h6 hx 2 (by decide)
  · exact flat6_get h6 hx 3 (by decide)
  · exact flat6_get h6 hx 4 (by decide)
  · exact flat6_get h6 hx 5 (by decide)
theorem table_nd {keys : List ByteArray} {l : List Tr} {kv lv : Value} {w : World} (h : Ss keys kv w) (h2 : Rn l lv w) : Nd (.mk 17 0 0 ⟨#[]⟩ keys l) (.agg #[.int .i64 17, .int .i64 0, .int .u64 0, .string ⟨#[]⟩, kv, lv]) w := by
  obtain ⟨vs, h3, h4⟩ := h2
  exact ⟨⟨by unfold i64ok; omega, by unfold i64ok; omega, by unfold u64ok; omega, by unfold lenok; decide⟩, kv, lv, vs, rfl, h, h3, h4⟩
theorem num_nd (n : Int) (hn : i64ok n) (w : World) : Nd (.mk 3 n 0 ⟨#[]⟩ [] []) (.agg #[.int .i64 3, .int .i64 n, .int .u64 0, .string ⟨#[]⟩, .slice none 0 0, .slice none 0 0]) w :=
  ⟨⟨by unfold i64ok; omega, hn, by unfold u64ok; omega, by unfold lenok; decide⟩, _, _, [], rfl, StrsAt.nil w, RowsAt.nil w, by simp [KidsAt]⟩
theorem vec_nd {l : List Tr} {lv : Value} {w : World} (h2 : Rn l lv w) : Nd (.mk 10 0 0 ⟨#[]⟩ [] l) (.agg #[.int .i64 10, .int .i64 0, .int .u64 0, .string ⟨#[]⟩, .slice none 0 0, lv]) w := by
  obtain ⟨vs, h3, h4⟩ := h2
  exact ⟨⟨by unfold i64ok; omega, by unfold i64ok; omega, by unfold u64ok; omega, by unfold lenok; decide⟩, _, lv, vs, rfl, StrsAt.nil w, h3, h4⟩
/-- What Order answers, plain. -/
def ordK (l : List ByteArray) : List Int × Int := if l.Nodup then ((sortP (l.zip (List.range l.length))).map (fun p => (p.2 : Int)), 0) else ([], 71)
theorem order_ord {w w' : World} {l : List ByteArray} {r : Ending} (hl : l.length ≤ 4096) (h : OrderOut w l r w') : Grew w w' ∧ ∃ v, r = .returned (.tuple #[v, .int .i64 (ordK l).2]) ∧ RowI w' v (ordK l).1 := by
  obtain ⟨hg, ⟨hn, rfl⟩ | ⟨hn, v, rfl, blk, cap, p, rfl, hp, hs, hc, rfl⟩⟩ := h
  · have e : ordK l = ([], 71) := by unfold ordK; rw [if_neg hn]
    rw [e]
    exact ⟨hg, _, rfl, RowI.nil _⟩
  · have e : ordK l = ((sortP (l.zip (List.range l.length))).map (fun p => (p.2 : Int)), 0) := by unfold ordK; rw [if_pos hn]
    have h1 := perm_sortP (l := List.range l.length) (by simp) hp hs (⟨#[]⟩, 0)
    have h2 : (sortP (l.zip (List.range l.length))).map (fun p => (p.2 : Int)) = p.map fun x => ((x.1 : Nat) : Int) := by
      rw [← h1, List.map_map]
      refine List.map_congr_left fun x hx => ?_
      simp [List.getD_eq_getElem?_getD, x.2]
    rw [e, h2]
    refine ⟨hg, _, rfl, some ⟨blk, 0, none⟩, l.length, by simp [perm_len hp], by simp [perm_len hp], by unfold lenok; omega, fun h => (by cases h), fun i x hx => ?_⟩
    · rw [List.getElem?_map] at hx
      cases hq : p[i]? with
      | none => rw [hq] at hx; cases hx
      | some q =>
        rw [hq] at hx
        cases hx
        exact ⟨trivial, blk, 0, rfl, by rw [Nat.zero_add]; exact hc i q hq⟩
/-- What Sorted hands back. -/
def SortedOut (w : World) (t : Tr) (r : Ending) (w' : World) : Prop :=
  Grew w w' ∧ ((checkE t ≠ 0 ∧ r = .returned (.tuple #[zeroNode, .int .i64 (checkE t)])) ∨ (checkE t = 0 ∧ ∃ v S, r = .returned (.tuple #[v, .int .i64 0]) ∧ OwnT w' w.heap.size (sortT t) v S ∧ ∀ g, S g → Fresh w w' g))
set_option maxRecDepth 100000 in
theorem sorted_any (t : Tr) (v : Value) (w : World) (hn : NodeAt w t v) (hsz : t.size ≤ 1099511627776) : Calls Try.prog 18 #[v] w fun r w' => SortedOut w t r w' := by
  have HC := Lib.hid hn
  obtain ⟨k, n, u, s, a4, n4, c4, a5, n5, c5, rfl⟩ := hn.node6
  obtain ⟨N, hN⟩ : ∃ N, w.heap.size = N := ⟨_, rfl⟩
  go_enter Try.func18, Try.ntmps18
  go_wp2_with fail
  have hb1 := heap_alloc_new w (.cells #[.int .i64 k, .int .i64 n, .int .u64 u, .string s, .slice a4 n4 c4, .slice a5 n5 c5] 26)
  have hg1 := (Grew.refl w).alloc (.cells #[.int .i64 k, .int .i64 n, .int .u64 u, .string s, .slice a4 n4 c4, .slice a5 n5 c5] 26)
  have hs1 : (w.alloc (.cells #[.int .i64 k, .int .i64 n, .int .u64 u, .string s, .slice a4 n4 c4, .slice a5 n5 c5] 26)).heap.size = w.heap.size + 1 := World.size_alloc _ _
  generalize (w.alloc (.cells #[.int .i64 k, .int .i64 n, .int .u64 u, .string s, .slice a4 n4 c4, .slice a5 n5 c5] 26)) = w1 at *
  have hb2 := heap_alloc_new w1 (.cells #[.int .i64 0, .int .i64 0, .int .u64 0, .string ⟨#[]⟩, .slice none 0 0, .slice none 0 0] 26)
  have hg2 := (Grew.refl w1).alloc (.cells #[.int .i64 0, .int .i64 0, .int .u64 0, .string ⟨#[]⟩, .slice none 0 0, .slice none 0 0] 26)
  rw [hs1, hN] at hb2
  generalize (w1.alloc (.cells #[.int .i64 0, .int .i64 0, .int .u64 0, .string ⟨#[]⟩, .slice none 0 0, .slice none 0 0] 26)) = w2 at *
  rw [hN] at hb1
  replace hb1 := hg2.heap hb1
  have hG := hg1.trans hg2
  have HN := Lib.hid hN
  clear hs1 hg1 hg2 hn hN
  refine (check_any t _ _ (HC.out.grew hG) hsz).mono ?_
  rintro r w3 ⟨rfl, hg3⟩
  replace hG := hG.trans hg3
  replace hb1 := hg3.heap hb1
  replace hb2 := hg3.heap hb2
  clear hg3
  have HG := Lib.hid hG
  have HB := Lib.hid (And.intro hb1 hb2)
  clear hG
  have d0 := row_cellT hb1 0 _ rfl
  have d1 := row_cellT hb1 1 _ rfl
  have d2 := row_cellT hb1 2 _ rfl
  have d3 := row_cellT hb1 3 _ rfl
  have d4 := row_cellT hb1 4 _ rfl
  have d5 := row_cellT hb1 5 _ rfl
  have z0 := row_cellT hb2 0 _ rfl
  have z1 := row_cellT hb2 1 _ rfl
  have z2 := row_cellT hb2 2 _ rfl
  have z3 := row_cellT hb2 3 _ rfl
  have z4 := row_cellT hb2 4 _ rfl
  have z5 := row_cellT hb2 5 _ rfl
  have f0 := row_frozen hb2 0
  have f1 := row_frozen hb2 1
  have f2 := row_frozen hb2 2
  have f3 := row_frozen hb2 3
  have f4 := row_frozen hb2 4
  have f5 := row_frozen hb2 5
  clear hb1 hb2
  obtain ⟨e, he⟩ : ∃ e, checkE t = e := ⟨_, rfl⟩
  have HE := Lib.hid he
  rw [he]
  by_cases h0 : e = 0
  · subst h0
    have hok := okT_check he
    have HOK := Lib.hid hok
    clear he hok
    go_wp2_with fail
    refine (treecopy_any t.size t (Nat.le_refl _) _ _ (HC.out.grew HG.out) (okT_few HOK.out.1)).mono ?_
    rintro r w4 ⟨v4, rfl, ho4, hg4⟩
    have HO4 := Lib.hid ho4
    have HG4 := Lib.hid hg4
    obtain ⟨k', n', u', s', a4', n4', c4', a5', n5', c5', rfl⟩ := ho4.node6
    clear ho4 hg4 z0 z1 z2 z3 z4 z5 f0 f1 f2 f3 f4 f5
    go_wp2_with fail
    refine (ksorted_any t.size t (Nat.le_refl _) HOK.out.1 _ w4 w3.heap.size _ HO4.out HG4.out.size (fun g hg => hg.2)).mono ?_
    rintro r w5 ⟨v5, S5, rfl, ho5, hm5, hz5, hf5⟩
    have hg5 : Grew w3 w5 := Moved.fresh HG4.out hm5 (fun g hg => hg.1)
    obtain ⟨k5, n5', u5, s5, a45, n45, c45, a55, n55, c55, rfl⟩ := ho5.node6
    have hb1 := hg5.heap HB.out.1
    have hb2 := hg5.heap HB.out.2
    have z0 := row_cellT hb2 0 _ rfl
    have z1 := row_cellT hb2 1 _ rfl
    have z2 := row_cellT hb2 2 _ rfl
    have z3 := row_cellT hb2 3 _ rfl
    have z4 := row_cellT hb2 4 _ rfl
    have z5 := row_cellT hb2 5 _ rfl
    have f0 := row_frozen hb2 0
    have f1 := row_frozen hb2 1
    have f2 := row_frozen hb2 2
    have f3 := row_frozen hb2 3
    have f4 := row_frozen hb2 4
    have f5 := row_frozen hb2 5
    have HFIN : Hid (SortedOut w t (.returned (.tuple #[.agg #[.int .i64 k5, .int .i64 n5', .int .u64 u5, .string s5, .slice a45 n45 c45, .slice a55 n55 c55], .int .i64 0])) (store6 w5 (N + 1) (.int .i64 k5) (.int .i64 n5') (.int .u64 u5) (.string s5) (.slice a45 n45 c45) (.slice a55 n55 c55))) := by
      have hN := HN.out
      have h3 : N + 1 < w3.heap.size := (Array.getElem?_eq_some_iff.1 HB.out.2).1
      have h4 := HG4.out.size
      have hT : Moved (fun k => k = N + 1) w5 (store6 w5 (N + 1) (.int .i64 k5) (.int .i64 n5') (.int .u64 u5) (.string s5) (.slice a45 n45 c45) (.slice a55 n55 c55)) := moved_store6 w5 (N + 1) (.int .i64 k5) (.int .i64 n5') (.int .u64 u5) (.string s5) (.slice a45 n45 c45) (.slice a55 n55 c55)
      have hsz := hT.size
      refine ⟨Moved.fresh (HG.out.trans hg5) hT (fun g e => by omega), .inr ⟨HE.out, _, S5, rfl, (ho5.kept hT (fun g hg e => ?_)).base HG.out.size, fun g hg => ?_⟩⟩
      · rcases hf5 g hg with h | h
        · have := h.1; omega
        · have := h.1; omega
      · have h6 := HG.out.size
        rcases hf5 g hg with h | h
        · exact ⟨by have := h.1; omega, by have := h.2; omega⟩
        · exact ⟨by have := h.1; omega, by have := h.2; omega⟩
    clear hb1 hb2 ho5 hm5 hz5 hf5 hg5
    go_wp2_with fail
    refine bodyPost_ret (v := .tuple #[.agg #[.int .i64 k5, .int .i64 n5', .int .u64 u5, .string s5, .slice a45 n45 c45, .slice a55 n55 c55], .int .i64 0]) (by simp [results, Try.results18, go_sem, z0, z1, z2, z3, z4, z5]) rfl ?_
    exact HFIN.out
  · have hb : (e == 0) = false := by simpa using h0
    have H0 := Lib.hid h0
    clear he h0
    have HFIN : Hid (SortedOut w t (.returned (.tuple #[.agg #[.int .i64 0, .int .i64 0, .int .u64 0, .string ⟨#[]⟩, .slice none 0 0, .slice none 0 0], .int .i64 e])) (store6 w3 (N + 1) (.int .i64 0) (.int .i64 0) (.int .u64 0) (.string ⟨#[]⟩) (.slice none 0 0) (.slice none 0 0))) := by
      have hN := HN.out
      have hT := moved_store6 w3 (N + 1) (.int .i64 0) (.int .i64 0) (.int .u64 0) (.string ⟨#[]⟩) (.slice none 0 0) (.slice none 0 0)
      exact ⟨Moved.fresh HG.out hT (fun g e => by omega), .inl ⟨by rw [HE.out]; exact H0.out, by rw [HE.out]; rfl⟩⟩
    go_wp2_with fail
    refine bodyPost_ret (v := .tuple #[.agg #[.int .i64 0, .int .i64 0, .int .u64 0, .string ⟨#[]⟩, .slice none 0 0, .slice none 0 0], .int .i64 e]) (by simp [results, Try.results18, go_sem, z0, z1, z2, z3, z4, z5]) rfl ?_
    exact HFIN.out
end Go.Proofs.Ytfbeepkogcmlmaa

/-
  Trees whose memory is no struct variable that still stands at its zero. Conditions: the children's kinds are not 0.
-/
namespace Go.Proofs.Ytfbeepkogcmlmaa
open Go Go.ChangeShapes Go.WideShapes Go.ChangeAt Go.RowKit Go.Joins Go.Deep
set_option linter.unusedVariables false
set_option linter.unusedSimpArgs false

/-- A node variable at its zero. -/
abbrev ZN : Obj := .cells #[.int .i64 0, .int .i64 0, .int .u64 0, .string ⟨#[]⟩, .slice none 0 0, .slice none 0 0] 26 (0, 0)
/-- All but variables at their zero is as it was. -/
def SameZ (w w' : World) : Prop := ∀ (k : Nat) (o : Obj), w.heap[k]? = some o → o ≠ ZN → w'.heap[k]? = some o
theorem SameZ.refl (w : World) : SameZ w w := fun _ _ h _ => h
theorem SameZ.of_grew {w w' : World} (h : Grew w w') : SameZ w w' := fun _ _ hk _ => h.heap hk
theorem SameZ.trans {a b c : World} (h : SameZ a b) (k : SameZ b c) : SameZ a c := fun i o hi ho => k i o (h i o hi ho) ho
theorem SameZ.told {w w' : World} {g : Nat} (hg : w.heap[g]? = some ZN) (hm : Moved (fun k => k = g) w w') : SameZ w w' := fun k o hk ho => hm.heap hk (fun e => by subst e; rw [hg] at hk; cases hk; exact ho rfl)
mutual
def nzT : Tr → Prop | .mk _ _ _ _ _ l => nzL l
def nzL : List Tr → Prop | [] => True | t :: r => t.kind ≠ 0 ∧ nzT t ∧ nzL r
end
theorem nzL_iff {l : List Tr} : nzL l ↔ ∀ x ∈ l, x.kind ≠ 0 ∧ nzT x := by
  induction l with
  | nil => simp [nzL]
  | cons t r ih => simp [nzL, ih, and_assoc]
theorem nzT_iff {t : Tr} : nzT t ↔ nzL t.kids := by cases t; simp [nzT, Tr.kids]
theorem rowS_same {w w' : World} {B size n : Nat} {e : TypeId} {v : Value} {xs : List Value} (h : w.ownsRow B e size v n xs) (hs : SameZ w w') (hz : ∀ g cap cur, v = .slice (some ⟨g, 0, none⟩) n cap → w.heap[g]? = some (.cells cur e (0, 0)) → Obj.cells cur e (0, 0) ≠ ZN) : w'.ownsRow B e size v n xs := by
  refine ⟨h.1, ?_⟩
  rcases h.2 with h2 | ⟨g, cap, cur, h1, hB, h2, h3⟩
  · exact .inl h2
  · exact .inr ⟨g, cap, cur, h1, hB, hs g _ h2 (hz g cap cur h1 h2), h3⟩
theorem kind_cell0 {w : World} {t : Tr} {v c0 c1 c2 c3 c4 c5 : Value} (h : NodeAt w t v) (e : v = .agg #[c0, c1, c2, c3, c4, c5]) : c0 = .int .i64 t.kind := by
  cases t
  simp only [NodeAt] at h
  obtain ⟨_, kv, lv, vs, e', _⟩ := h
  rw [e] at e'
  injection e' with e'
  simp only [Array.mk.injEq, List.cons.injEq] at e'
  exact e'.1
mutual
theorem OwnT.sameZ {w w' : World} {B : Nat} (hs : SameZ w w') : ∀ {t : Tr} {v : Value} {S : Nat → Prop}, OwnT w B t v S → nzT t → NodeAt w' t v
  | .mk k n u s keys l, v, S, ⟨hb, kv, lv, vs, S', e, h1, h2, _, _, _, _, h7⟩, hz => by
    refine ⟨⟨hb.1, hb.2.1, hb.2.2.1, hb.2.2.2.1⟩, kv, lv, vs, e, ?_, ?_, KidsO.sameZ hs h7 (by simpa [nzT] using hz)⟩
    · have h1' : OwnS w' B kv keys := rowS_same h1 hs (fun g cap cur _ _ h => by injection h with _ h; revert h; decide)
      exact h1'.strs hb.2.2.2.2
    · cases hvs : vs with
      | nil =>
        subst hvs
        obtain ⟨a, c, e1, h3, h4, h5⟩ := rows_form h2.1
        exact ⟨a, c, e1, h3, h4, h5, by simp⟩
      | cons x r =>
        rw [← hvs]
        have h2' : OwnN w' B lv vs := by
          refine ⟨rowS_same h2.1 hs (fun g cap cur hv hg h => ?_), h2.2⟩
          cases l with
          | nil => have := h7.length; rw [hvs] at this; simp at this
          | cons t0 l0 =>
            have hk0 : t0.kind ≠ 0 := by simp only [nzT, nzL] at hz; exact hz.1
            simp only [KidsO] at h7
            obtain ⟨v0, vr, S1, S2, e0, _, _, _, ho, _⟩ := h7
            rw [e0] at h2 hv
            have hc := (h2.rows)
            obtain ⟨a, c, e1, _, _, _, hrow⟩ := hc
            obtain ⟨b, off, e2, h6⟩ := hrow 0 v0 rfl
            rw [hv] at e1
            injection e1 with e1 _ _
            rw [e2] at e1
            injection e1 with e1
            injection e1 with e1 e3 _
            subst e1; subst e3
            obtain ⟨c0, _, _, _, _, _, ev, hc0, _⟩ := h6
            have hk := kind_cell0 ho.node ev
            rw [show (0 : Nat) + 0 * 6 = 0 from rfl] at hc0
            rw [cell_of_row _ _ _ _ _ _ hg] at hc0
            injection h with h _
            rw [h] at hc0
            simp at hc0
            rw [hk] at hc0
            injection hc0 with _ hc0
            exact hk0 hc0.symm
        exact h2'.rows
theorem KidsO.sameZ {w w' : World} {B : Nat} (hs : SameZ w w') : ∀ {l : List Tr} {vs : List Value} {S : Nat → Prop}, KidsO w B l vs S → nzL l → KidsAt w' l vs
  | [], _, _, h, _ => h
  | t :: r, _, S, ⟨v, vr, S1, S2, e, _, _, _, h4, h5⟩, hz => ⟨v, vr, e, OwnT.sameZ hs h4 (by simp only [nzL] at hz; exact hz.2.1), KidsO.sameZ hs h5 (by simp only [nzL] at hz; exact hz.2.2)⟩
end
/-- A tree that stays whatever is told to variables at their zero. -/
def NdZ (t : Tr) (v : Value) (w : World) : Prop := ∀ w', SameZ w w' → NodeAt w' t v
theorem NdZ.nd {t : Tr} {v : Value} {w : World} (h : NdZ t v w) : NodeAt w t v := h w (SameZ.refl w)
theorem NdZ.same {t : Tr} {v : Value} {w w' : World} (h : NdZ t v w) (hs : SameZ w w') : NdZ t v w' := fun w2 h2 => h w2 (hs.trans h2)
theorem NdZ.st (t : Tr) : ∀ v w w', Grew w w' → NdZ t v w → NdZ t v w' := fun _ _ _ hg h => h.same (SameZ.of_grew hg)
theorem OwnT.ndZ {w : World} {B : Nat} {t : Tr} {v : Value} {S : Nat → Prop} (h : OwnT w B t v S) (hz : nzT t) : NdZ t v w := fun _ hs => h.sameZ hs hz
theorem such_kind {t : Tr} (h : suchB t = true) : 1 ≤ t.kind ∧ t.kind ≤ 17 := by
  cases t
  simp only [suchB, Bool.and_eq_true, decide_eq_true_eq] at h
  exact h.1.1.1.1.1.1.1.1
theorem nz_pre : ∀ (m : Nat) (t : Tr) (b : Nat), t.size ≤ m → (∀ p ∈ preT b t, p.2.kind ≠ 0) → nzT t := by
  intro m
  induction m with
  | zero => intro t b h; have := t.size_pos; omega
  | succ m ih =>
    intro t b h hp
    obtain ⟨k, n, u, s, keys, l⟩ := t
    simp only [nzT]
    rw [nzL_iff]
    simp only [preT] at hp
    intro x hx
    have hsub : ∀ p ∈ preT (b + 1) x, p ∈ preL (b + 1) l := by
      clear hp h
      induction l with
      | nil => cases hx
      | cons t r ih =>
        intro p hp
        simp only [preL, List.mem_append]
        rcases List.mem_cons.1 hx with rfl | hx
        · exact .inl hp
        · exact .inr (ih hx p hp)
    refine ⟨?_, ih x (b + 1) (by have := size_mem hx; simp only [Tr.size] at h; omega) (fun p hp' => hp p (List.mem_cons_of_mem _ (hsub p hp')))⟩
    have := hp (b + 1, x) (List.mem_cons_of_mem _ (hsub _ (by cases x; simp [preT])))
    exact this
theorem nz_check {t : Tr} (h : checkE t = 0) : nzT t := by
  obtain ⟨_, h2⟩ := checkL_zero _ 0 h
  refine nz_pre t.size t 0 (Nat.le_refl _) fun p hp => ?_
  have := such_kind (h2 p hp).2.1
  omega
theorem sortT_kind (t : Tr) : (sortT t).kind = t.kind := by
  cases t
  simp only [sortT]
  split <;> rfl
theorem nz_sort : ∀ (m : Nat) (t : Tr), t.size ≤ m → nzT t → nzT (sortT t) := by
  intro m
  induction m with
  | zero => intro t h; have := t.size_pos; omega
  | succ m ih =>
    intro t h hz
    obtain ⟨k, n, u, s, keys, l⟩ := t
    simp only [nzT, nzL_iff] at hz
    have hl : ∀ x ∈ sortL l, x.kind ≠ 0 ∧ nzT x := by
      intro x hx
      rw [sortL_map] at hx
      obtain ⟨y, hy, rfl⟩ := List.mem_map.1 hx
      exact ⟨by rw [sortT_kind]; exact (hz y hy).1, ih y (by have := size_mem hy; simp only [Tr.size] at h; omega) (hz y hy).2⟩
    simp only [sortT]
    split
    · simp only [nzT, nzL_iff]
      intro x hx
      obtain ⟨p, hp, rfl⟩ := List.mem_map.1 hx
      have := (sortP_perm _).mem_iff.1 hp
      exact hl _ (List.of_mem_zip this).2
    · simp only [nzT, nzL_iff]
      exact hl
theorem sorted_ndZ {w w' : World} {t : Tr} {r : Ending} (h : SortedOut w t r w') (h0 : checkE t = 0) : Grew w w' ∧ ∃ v, r = .returned (.tuple #[v, .int .i64 0]) ∧ NdZ (sortT t) v w' := by
  obtain ⟨hg, ⟨h1, _⟩ | ⟨_, v, S, rfl, ho, _⟩⟩ := h
  · exact absurd h0 h1
  · exact ⟨hg, v, rfl, ho.ndZ (nz_sort t.size t (Nat.le_refl _) (nz_check h0))⟩
/-- What the write of a node variable does. -/
def ToldN (va vb : Value) (wg w : World) : Prop :=
  ∃ g c0 c1 c2 c3 c4 c5, va = .pointer (some ⟨g, 0, none⟩) ∧ vb = .agg #[c0, c1, c2, c3, c4, c5] ∧ w = store6 wg g c0 c1 c2 c3 c4 c5
/-- A node variable made behind w0, at its zero. -/
def NewN (w0 : World) (v : Value) (w : World) : Prop := ∃ g, v = .pointer (some ⟨g, 0, none⟩) ∧ w0.heap.size ≤ g ∧ w.heap[g]? = some ZN
theorem NewN.st (w0 : World) : ∀ v w w', Grew w w' → NewN w0 v w → NewN w0 v w' := fun _ _ _ hg ⟨g, e, h1, h2⟩ => ⟨g, e, h1, hg.heap h2⟩
/-- A node variable that holds a value. -/
def VarN (w0 : World) (va vb : Value) (w : World) : Prop := ∃ g c0 c1 c2 c3 c4 c5, va = .pointer (some ⟨g, 0, none⟩) ∧ w0.heap.size ≤ g ∧ vb = .agg #[c0, c1, c2, c3, c4, c5] ∧ w.heap[g]? = some (.cells #[c0, c1, c2, c3, c4, c5] 26 (0, 0))
theorem told_var {w0 wg w : World} {va vb : Value} (h : ToldN va vb wg w) (hn : NewN w0 va wg) (hg : Grew w0 wg) : Grew w0 w ∧ SameZ wg w ∧ VarN w0 va vb w := by
  obtain ⟨g, c0, c1, c2, c3, c4, c5, rfl, rfl, rfl⟩ := h
  obtain ⟨g', e, h1, h2⟩ := hn
  cases e
  have hm : Moved (fun k => k = g) wg (store6 wg g c0 c1 c2 c3 c4 c5) := moved_store6 wg g c0 c1 c2 c3 c4 c5
  exact ⟨Moved.fresh hg hm (fun k e => by omega), SameZ.told h2 hm, g, c0, c1, c2, c3, c4, c5, rfl, h1, rfl, heap_store6 h2 _ _ _ _ _ _⟩
end Go.Proofs.Ytfbeepkogcmlmaa

/-
  Normal forms, plain: valid trees, sorted trees, their normal forms. No program.
-/
namespace Go.Proofs.Ytfbeepkogcmlmaa
open Go Go.ChangeShapes Go.WideShapes Go.ChangeAt Go.RowKit Go.Joins Go.Deep
set_option linter.unusedVariables false
set_option linter.unusedSimpArgs false

mutual
/-- A valid tree whose root lies at level b, but for its size. -/
def valT (b : Nat) : Tr → Prop | .mk k n u s keys l => b < 64 ∧ suchB (.mk k n u s keys l) = true ∧ keyedE (.mk k n u s keys l) = 0 ∧ valL (b + 1) l
def valL (b : Nat) : List Tr → Prop | [] => True | t :: r => valT b t ∧ valL b r
end
theorem valL_iff {b : Nat} : ∀ {l : List Tr}, valL b l ↔ ∀ x ∈ l, valT b x
  | [] => by simp [valL]
  | t :: r => by simp [valL, valL_iff (l := r)]
mutual
theorem val_pre {b : Nat} : ∀ {t : Tr}, valT b t ↔ ∀ p ∈ preT b t, p.1 < 64 ∧ suchB p.2 = true ∧ keyedE p.2 = 0
  | .mk k n u s keys l => by
    simp only [valT, preT, List.mem_cons, forall_eq_or_imp]
    rw [val_preL (b := b + 1) (l := l)]
    exact ⟨fun h => ⟨⟨h.1, h.2.1, h.2.2.1⟩, h.2.2.2⟩, fun h => ⟨h.1.1, h.1.2.1, h.1.2.2, h.2⟩⟩
theorem val_preL {b : Nat} : ∀ {l : List Tr}, valL b l ↔ ∀ p ∈ preL b l, p.1 < 64 ∧ suchB p.2 = true ∧ keyedE p.2 = 0
  | [] => by simp [valL, preL]
  | t :: r => by
    simp only [valL, preL, List.mem_append]
    rw [val_pre (t := t), val_preL (l := r)]
    exact ⟨fun h p hp => hp.elim (h.1 p) (h.2 p), fun h => ⟨fun p hp => h p (.inl hp), fun p hp => h p (.inr hp)⟩⟩
end
theorem checkL_of : ∀ (ps : List (Nat × Tr)) (c : Nat), c + ps.length ≤ 4096 → (∀ p ∈ ps, p.1 < 64 ∧ suchB p.2 = true ∧ keyedE p.2 = 0) → checkL c ps = 0
  | [], _, _, _ => rfl
  | (b, x) :: r, c, hc, h => by
    have h0 := h (b, x) (by simp)
    simp only [List.length_cons] at hc
    simp only [checkL]
    rw [if_neg (by omega), if_neg (by have := h0.1; simp only at this; omega), if_neg (by have := h0.2.1; simp only at this; rw [this]; decide), if_neg (by have := h0.2.2; simp only at this; rw [this]; simp)]
    exact checkL_of r (c + 1) (by omega) (fun p hp => h p (by simp [hp]))
theorem check_val {t : Tr} : checkE t = 0 ↔ t.size ≤ 4096 ∧ valT 0 t := by
  constructor
  · intro h
    obtain ⟨h1, h2⟩ := checkL_zero _ 0 h
    refine ⟨(okT_check h).2, val_pre.2 fun p hp => h2 p hp⟩
  · rintro ⟨h1, h2⟩
    refine checkL_of _ 0 (by rw [preT_length]; omega) (val_pre.1 h2)
mutual
theorem val_mono {b c : Nat} (h : c ≤ b) : ∀ {t : Tr}, valT b t → valT c t
  | .mk k n u s keys l, ⟨h1, h2, h3, h4⟩ => ⟨by omega, h2, h3, val_monoL (by omega) h4⟩
theorem val_monoL {b c : Nat} (h : c ≤ b) : ∀ {l : List Tr}, valL b l → valL c l
  | [], _ => trivial
  | t :: r, ⟨h1, h2⟩ => ⟨val_mono h h1, val_monoL h h2⟩
end
theorem bytes_nil {s : ByteArray} (h : s.toList = []) : s = ⟨#[]⟩ := by
  have h2 : (s.toList == (⟨#[]⟩ : ByteArray).toList) = true := by rw [h]; decide +kernel
  rw [str_eq] at h2
  exact of_decide_eq_true h2
/-- The keys have no error. -/
theorem keysE_iff : ∀ (l had : List ByteArray), keysE had l = 0 ↔ (∀ k ∈ l, zeroB k = false ∧ k ∉ had) ∧ l.Nodup
  | [], had => by simp [keysE]
  | k :: r, had => by
    simp only [keysE]
    by_cases h1 : zeroB k = true
    · rw [if_pos h1]
      refine ⟨fun h => absurd h (by decide), fun h => ?_⟩
      have := (h.1 k (by simp)).1
      rw [h1] at this; cases this
    · rw [if_neg h1]
      by_cases h2 : seenB k had = true
      · rw [if_pos h2]
        refine ⟨fun h => absurd h (by decide), fun h => ?_⟩
        exact absurd ((seenB_iff k had).1 h2) (h.1 k (by simp)).2
      · rw [if_neg h2, keysE_iff r (had ++ [k])]
        have h2' : k ∉ had := fun h => h2 ((seenB_iff k had).2 h)
        have h1' : zeroB k = false := by simpa using h1
        constructor
        · rintro ⟨h3, h4⟩
          refine ⟨fun q hq => ?_, List.nodup_cons.2 ⟨fun hk => ?_, h4⟩⟩
          · rcases List.mem_cons.1 hq with rfl | hq
            · exact ⟨h1', h2'⟩
            · exact ⟨(h3 q hq).1, fun h => (h3 q hq).2 (by simp [h])⟩
          · exact (h3 k hk).2 (by simp)
        · rintro ⟨h3, h4⟩
          obtain ⟨h5, h6⟩ := List.nodup_cons.1 h4
          refine ⟨fun q hq => ⟨(h3 q (by simp [hq])).1, fun h => ?_⟩, h6⟩
          rcases List.mem_append.1 h with h | h
          · exact (h3 q (by simp [hq])).2 h
          · simp at h; subst h; exact h5 hq
theorem keysE_perm {l m : List ByteArray} (h : l.Perm m) (hl : keysE [] l = 0) : keysE [] m = 0 := by
  rw [keysE_iff] at hl ⊢
  exact ⟨fun k hk => hl.1 k (h.mem_iff.2 hk), h.nodup_iff.1 hl.2⟩

/-- What a valid node's fields are, by its kind. -/
theorem val_node {b : Nat} {k n u : Int} {s : ByteArray} {keys : List ByteArray} {l : List Tr} (h : valT b (.mk k n u s keys l)) :
    (1 ≤ k ∧ k ≤ 17) ∧ (k ≤ 9 → l = []) ∧ (k ≠ 17 → keys = []) ∧ (k = 17 → keys.Nodup ∧ keys.length = l.length) ∧
    (k ≠ 2 → k ≠ 3 → k ≠ 8 → n = 0) ∧ (k ≠ 4 → k ≠ 9 → u = 0) ∧ (k ≠ 5 → k ≠ 6 → k ≠ 7 → s = ⟨#[]⟩) := by
  obtain ⟨h1, h2, h3, h4⟩ := h
  have hk := okN_of h2 h3
  have hall := valL_iff.1 h4
  simp only [suchB, Bool.and_eq_true, decide_eq_true_eq, Bool.or_eq_true, Bool.not_eq_true'] at h2
  obtain ⟨⟨⟨⟨⟨⟨⟨⟨h17, hn⟩, hu⟩, hs⟩, hky⟩, _⟩, _⟩, _⟩, hoth⟩ := h2
  refine ⟨h17, fun h9 => ?_, hk.2, hk.1, fun a b c => ?_, fun a b => ?_, fun a b c => ?_⟩
  · cases l with
    | nil => rfl
    | cons x r =>
      exfalso
      have hx := hall x (by simp)
      have hxk : 1 ≤ x.kind := by
        cases x
        obtain ⟨_, hx2, _⟩ := hx
        exact (such_kind hx2).1
      have hp : partF k = -1 := by
        have : k = 1 ∨ k = 2 ∨ k = 3 ∨ k = 4 ∨ k = 5 ∨ k = 6 ∨ k = 7 ∨ k = 8 ∨ k = 9 := by omega
        rcases this with e | e | e | e | e | e | e | e | e <;> (subst e; decide)
      rw [List.any_cons, Bool.or_eq_false_iff] at hoth
      have := hoth.1
      rw [hp] at this
      simp [otherB] at this
      omega
  · rcases hn with h | h
    · exfalso
      have : k = 1 ∨ k = 4 ∨ k = 5 ∨ k = 6 ∨ k = 7 ∨ k = 9 ∨ k = 10 ∨ k = 11 ∨ k = 12 ∨ k = 13 ∨ k = 14 ∨ k = 15 ∨ k = 16 ∨ k = 17 := by omega
      rcases this with e | e | e | e | e | e | e | e | e | e | e | e | e | e <;> (subst e; revert h; decide)
    · exact h
  · rcases hu with h | h
    · exfalso
      have : k = 1 ∨ k = 2 ∨ k = 3 ∨ k = 5 ∨ k = 6 ∨ k = 7 ∨ k = 8 ∨ k = 10 ∨ k = 11 ∨ k = 12 ∨ k = 13 ∨ k = 14 ∨ k = 15 ∨ k = 16 ∨ k = 17 := by omega
      rcases this with e | e | e | e | e | e | e | e | e | e | e | e | e | e | e <;> (subst e; revert h; decide)
    · exact h
  · rcases hs with h | h
    · exfalso
      have : k = 1 ∨ k = 2 ∨ k = 3 ∨ k = 4 ∨ k = 8 ∨ k = 9 ∨ k = 10 ∨ k = 11 ∨ k = 12 ∨ k = 13 ∨ k = 14 ∨ k = 15 ∨ k = 16 ∨ k = 17 := by omega
      rcases this with e | e | e | e | e | e | e | e | e | e | e | e | e | e <;> (subst e; revert h; decide)
    · exact bytes_nil h
/-- Validity of a node whose children are valid. -/
theorem few_val : ∀ (m : Nat) (t : Tr) (b : Nat), t.size ≤ m → t.size ≤ 4096 → valT b t → Few t := by
  intro m
  induction m with
  | zero => intro t b h; have := t.size_pos; omega
  | succ m ih =>
    intro t b h hz hv
    obtain ⟨k, n, u, s, keys, l⟩ := t
    obtain ⟨_, _, h3, h4, _⟩ := val_node hv
    simp only [Tr.size] at h hz
    have hl := length_sizeL l
    have hkids : FewL l := by
      have hall := valL_iff.1 hv.2.2.2
      have : ∀ q : List Tr, (∀ x ∈ q, x ∈ l) → FewL q := by
        intro q
        induction q with
        | nil => intro _; trivial
        | cons x r ihr => intro hs; exact ⟨ih x (b + 1) (by have := size_mem (hs x (by simp)); omega) (by have := size_mem (hs x (by simp)); omega) (hall x (hs x (by simp))), ihr fun y hy => hs y (by simp [hy])⟩
      exact this l fun _ h => h
    refine ⟨?_, by omega, hkids⟩
    by_cases e : k = 17
    · have := (h4 e).2; omega
    · rw [h3 e]; simp
end Go.Proofs.Ytfbeepkogcmlmaa

/-
  Normal forms, plain: sorting, normal forms, retagging. No program.
-/
namespace Go.Proofs.Ytfbeepkogcmlmaa
open Go Go.ChangeShapes Go.WideShapes Go.ChangeAt Go.RowKit Go.Joins Go.Deep
set_option linter.unusedVariables false
set_option linter.unusedSimpArgs false

theorem such_iff {k n u : Int} {s : ByteArray} {keys : List ByteArray} {l : List Tr} : suchB (.mk k n u s keys l) = true ↔
    (1 ≤ k ∧ k ≤ 17) ∧ (usesF k = 1 ∨ n = 0) ∧ (usesF k = 2 ∨ u = 0) ∧ (usesF k = 4 ∨ s.toList = []) ∧ (usesF k = 8 ∨ keys.length = 0) ∧ (k = 2 → n = 0 ∨ n = 1) ∧ (k = 17 → keys.length = l.length) ∧ (k = 15 ∨ k = 16 → 2 ≤ l.length ∧ l.length ≤ 4) ∧ ∀ x ∈ l, otherB (partF k) x = false := by
  simp only [suchB, Bool.and_eq_true, decide_eq_true_eq, Bool.or_eq_true, Bool.not_eq_true', decide_eq_false_iff_not, List.any_eq_false, Bool.not_eq_true, Bool.or_eq_false_iff]
  constructor
  · rintro ⟨⟨⟨⟨⟨⟨⟨⟨h1, h2⟩, h3⟩, h4⟩, h5⟩, h6⟩, h7⟩, h8⟩, h9⟩
    exact ⟨h1, h2, h3, h4, h5, by omega, by omega, by omega, h9⟩
  · rintro ⟨h1, h2, h3, h4, h5, h6, h7, h8, h9⟩
    exact ⟨⟨⟨⟨⟨⟨⟨⟨h1, h2⟩, h3⟩, h4⟩, h5⟩, by omega⟩, by omega⟩, by omega⟩, h9⟩
theorem keyed_iff {k n u : Int} {s : ByteArray} {keys : List ByteArray} {l : List Tr} : keyedE (.mk k n u s keys l) = 0 ↔ ¬ (k = 5 ∧ zeroB s = true) ∧ keysE [] keys = 0 := by
  simp only [keyedE]
  by_cases h : k = 5 ∧ zeroB s = true
  · rw [if_pos h]; simp [h]
  · rw [if_neg h]; simp [h]
theorem kind_sort (t : Tr) : (sortT t).kind = t.kind := by
  cases t
  simp only [sortT]
  split <;> rfl
theorem other_kind {p : Int} {x y : Tr} (h : x.kind = y.kind) : otherB p x = otherB p y := by simp [otherB, h]
theorem zip_fst {α β : Type} : ∀ {a : List α} {b : List β}, a.length = b.length → (a.zip b).map Prod.fst = a := fun h => List.map_fst_zip (by omega)
theorem zip_snd {α β : Type} : ∀ {a : List α} {b : List β}, a.length = b.length → (a.zip b).map Prod.snd = b := fun h => List.map_snd_zip (by omega)
theorem sizeL_perm {a b : List Tr} (hp : a.Perm b) : sizeL a = sizeL b := by
  induction hp with
  | nil => rfl
  | cons x _ ih => simp only [sizeL, ih]
  | swap x y l => simp only [sizeL]; omega
  | trans _ _ h1 h2 => exact h1.trans h2
theorem sizeL_map {f : Tr → Tr} : ∀ {l : List Tr}, (∀ x ∈ l, (f x).size = x.size) → sizeL (l.map f) = sizeL l
  | [], _ => rfl
  | t :: r, h => by simp only [List.map_cons, sizeL]; rw [h t (by simp), sizeL_map (l := r) fun x hx => h x (by simp [hx])]
/-- Sorting keeps a tree valid, and its size. -/
theorem val_sort : ∀ (m : Nat) (t : Tr) (b : Nat), t.size ≤ m → valT b t → valT b (sortT t) ∧ (sortT t).size = t.size := by
  intro m
  induction m with
  | zero => intro t b h; have := t.size_pos; omega
  | succ m ih =>
    intro t b h hv
    obtain ⟨k, n, u, s, keys, l⟩ := t
    simp only [Tr.size] at h
    have hall := valL_iff.1 hv.2.2.2
    have hk : ∀ x ∈ l, valT (b + 1) (sortT x) ∧ (sortT x).size = x.size := fun x hx => ih x (b + 1) (by have := size_mem hx; omega) (hall x hx)
    obtain ⟨h1, h2, h3, _⟩ := hv
    rw [such_iff] at h2
    rw [keyed_iff] at h3
    obtain ⟨s1, s2, s3, s4, s5, s6, s7, s8, s9⟩ := h2
    have hsz : sizeL (l.map sortT) = sizeL l := sizeL_map fun x hx => (hk x hx).2
    simp only [sortT]
    by_cases e : k = 17
    · rw [if_pos e]
      have hlen := s7 e
      have hp := sortP_perm (keys.zip (sortL l))
      have hl2 : keys.length = (sortL l).length := by rw [sortL_map, List.length_map]; exact hlen
      have hp1 := hp.map Prod.fst
      have hp2 := hp.map Prod.snd
      rw [zip_fst hl2] at hp1
      rw [zip_snd hl2] at hp2
      refine ⟨⟨h1, such_iff.2 ⟨s1, s2, s3, s4, s5.imp id (fun h => by rw [hp1.length_eq, h]), s6, fun _ => by rw [List.length_map, List.length_map], fun h => by omega, fun x hx => ?_⟩, keyed_iff.2 ⟨h3.1, keysE_perm hp1.symm h3.2⟩, valL_iff.2 fun x hx => ?_⟩, ?_⟩
      · subst e; simp [partF, otherB]
      · rw [hp2.mem_iff, sortL_map, List.mem_map] at hx
        obtain ⟨y, hy, rfl⟩ := hx
        exact (hk y hy).1
      · simp only [Tr.size]; rw [sizeL_perm hp2, sortL_map, hsz]
    · rw [if_neg e, sortL_map]
      refine ⟨⟨h1, such_iff.2 ⟨s1, s2, s3, s4, s5, s6, fun h => absurd h e, by rw [List.length_map]; exact s8, fun x hx => ?_⟩, keyed_iff.2 h3, valL_iff.2 fun x hx => ?_⟩, ?_⟩
      · obtain ⟨y, hy, rfl⟩ := List.mem_map.1 hx
        rw [other_kind (kind_sort y)]; exact s9 y hy
      · obtain ⟨y, hy, rfl⟩ := List.mem_map.1 hx
        exact (hk y hy).1
      · simp only [Tr.size, hsz]
/-- A map's keys stand in order, at every node. -/
def srtT (t : Tr) : Prop := ∀ p ∈ preT 0 t, p.2.keys.Pairwise fun x y => ltS x y = true
theorem pre_snd (b c : Nat) : ∀ (t : Tr), (preT b t).map Prod.snd = (preT c t).map Prod.snd
  | .mk k n u s keys l => by simp only [preT, List.map_cons]; rw [pre_sndL (b + 1) (c + 1) l]
where pre_sndL (b c : Nat) : ∀ (l : List Tr), (preL b l).map Prod.snd = (preL c l).map Prod.snd
  | [] => rfl
  | t :: r => by simp only [preL, List.map_append]; rw [pre_snd b c t, pre_sndL b c r]
theorem mem_preL' {b : Nat} {p : Nat × Tr} : ∀ {l : List Tr}, p ∈ preL b l ↔ ∃ x ∈ l, p ∈ preT b x
  | [] => by simp [preL]
  | t :: r => by simp [preL, mem_preL' (l := r)]
theorem srt_any {t : Tr} (b : Nat) (h : srtT t) : ∀ p ∈ preT b t, p.2.keys.Pairwise fun x y => ltS x y = true := by
  intro p hp
  have : p.2 ∈ (preT 0 t).map Prod.snd := by rw [pre_snd 0 b]; exact List.mem_map.2 ⟨p, hp, rfl⟩
  obtain ⟨q, hq, e⟩ := List.mem_map.1 this
  rw [← e]; exact h q hq
theorem srt_of {t : Tr} {b : Nat} (h : ∀ p ∈ preT b t, p.2.keys.Pairwise fun x y => ltS x y = true) : srtT t := by
  intro p hp
  have : p.2 ∈ (preT b t).map Prod.snd := by rw [pre_snd b 0]; exact List.mem_map.2 ⟨p, hp, rfl⟩
  obtain ⟨q, hq, e⟩ := List.mem_map.1 this
  rw [← e]; exact h q hq
theorem srt_iff {k n u : Int} {s : ByteArray} {keys : List ByteArray} {l : List Tr} : srtT (.mk k n u s keys l) ↔ keys.Pairwise (fun x y => ltS x y = true) ∧ ∀ x ∈ l, srtT x := by
  constructor
  · intro h
    refine ⟨h (0, .mk k n u s keys l) (by simp [preT]), fun x hx => srt_of (b := 1) fun p hp => h p ?_⟩
    simp only [preT]
    exact List.mem_cons_of_mem _ (mem_preL'.2 ⟨x, hx, hp⟩)
  · rintro ⟨h1, h2⟩ p hp
    simp only [preT, List.mem_cons] at hp
    rcases hp with rfl | hp
    · exact h1
    · obtain ⟨x, hx, hpx⟩ := mem_preL'.1 hp
      exact srt_any 1 (h2 x hx) p hpx
theorem srt_sort : ∀ (m : Nat) (t : Tr) (b : Nat), t.size ≤ m → valT b t → srtT (sortT t) := by
  intro m
  induction m with
  | zero => intro t b h; have := t.size_pos; omega
  | succ m ih =>
    intro t b h hv
    have hn := hv
    obtain ⟨k, n, u, s, keys, l⟩ := t
    obtain ⟨_, _, v3, v4, _⟩ := val_node hn
    simp only [Tr.size] at h
    have hall := valL_iff.1 hv.2.2.2
    have hk : ∀ x ∈ l, srtT (sortT x) := fun x hx => ih x (b + 1) (by have := size_mem hx; omega) (hall x hx)
    simp only [sortT]
    by_cases e : k = 17
    · rw [if_pos e, srt_iff]
      obtain ⟨hnd, hlen⟩ := v4 e
      have hl2 : keys.length = (sortL l).length := by rw [sortL_map, List.length_map]; exact hlen
      refine ⟨?_, fun x hx => ?_⟩
      · rw [List.pairwise_map]
        exact sortP_sorted _ (by rw [zip_fst hl2]; exact hnd)
      · obtain ⟨p, hp, rfl⟩ := List.mem_map.1 hx
        have h1 := (List.of_mem_zip ((sortP_perm _).mem_iff.1 hp)).2
        rw [sortL_map] at h1
        obtain ⟨y, hy, e⟩ := List.mem_map.1 h1
        rw [← e]; exact hk y hy
    · rw [if_neg e, srt_iff, v3 e, sortL_map]
      refine ⟨List.Pairwise.nil, fun x hx => ?_⟩
      obtain ⟨y, hy, rfl⟩ := List.mem_map.1 hx
      exact hk y hy
/-- A sorted tree is its own sorted form. -/
theorem sort_srt : ∀ (m : Nat) (t : Tr) (b : Nat), t.size ≤ m → valT b t → srtT t → sortT t = t := by
  intro m
  induction m with
  | zero => intro t b h; have := t.size_pos; omega
  | succ m ih =>
    intro t b h hv hs
    have hn := hv
    obtain ⟨k, n, u, s, keys, l⟩ := t
    obtain ⟨_, _, v3, v4, _⟩ := val_node hn
    simp only [Tr.size] at h
    rw [srt_iff] at hs
    have hall := valL_iff.1 hv.2.2.2
    have hk : sortL l = l := by
      rw [sortL_map]
      have : ∀ x ∈ l, sortT x = x := fun x hx => ih x (b + 1) (by have := size_mem hx; omega) (hall x hx) (hs.2 x hx)
      rw [List.map_congr_left this, List.map_id']
    simp only [sortT]
    rw [hk]
    by_cases e : k = 17
    · rw [if_pos e]
      obtain ⟨hnd, hlen⟩ := v4 e
      have he : sortP (keys.zip l) = keys.zip l := by
        refine eq_of_strict _ _ (sortP_perm _) (sortP_sorted _ (by rw [zip_fst hlen]; exact hnd)) ?_
        have : ((keys.zip l).map Prod.fst).Pairwise fun x y => ltS x y = true := by rw [zip_fst hlen]; exact hs.1
        rwa [List.pairwise_map] at this
      rw [he, zip_fst hlen, zip_snd hlen]
    · rw [if_neg e]

/-! ### normal forms -/
theorem of_eq (k n u : Int) (s : ByteArray) (keys : List ByteArray) (l : List Tr) : ofT (.mk k n u s keys l) = formN k n u s keys (l.map ofT) := by simp [ofT, ofL_map]
theorem zip_maps (f g : Tr → Tr) : ∀ (keys : List ByteArray) (l : List Tr), (keys.zip (l.map g)).map (fun p => (p.1, f p.2)) = keys.zip (l.map fun t => f (g t))
  | [], _ => rfl
  | k :: r, [] => rfl
  | k :: r, t :: q => by simp only [List.map_cons, List.zip_cons_cons]; rw [zip_maps f g r q]
theorem nil_bytes : (⟨#[]⟩ : ByteArray).toList = [] := by decide +kernel
/-- The normal form of a tree, sorting and all. -/
def norT (t : Tr) : Tr := ofT (sortT t)
theorem nor_eq (k n u : Int) (s : ByteArray) (keys : List ByteArray) (l : List Tr) : norT (.mk k n u s keys l) =
    if k = 17 then .mk 17 n u s ((sortP (keys.zip (l.map norT))).map Prod.fst) ((sortP (keys.zip (l.map norT))).map Prod.snd) else formN k n u s keys (l.map norT) := by
  unfold norT
  simp only [sortT]
  by_cases e : k = 17
  · rw [if_pos e, if_pos e, of_eq]
    subst e
    have hz : (keys.zip (sortL l)).map (fun p => (p.1, ofT p.2)) = keys.zip (l.map fun t => ofT (sortT t)) := by
      rw [sortL_map]
      exact zip_maps ofT sortT keys l
    rw [← hz, ← sortP_map]
    have hf : formN 17 n u s ((sortP (keys.zip (sortL l))).map Prod.fst) (((sortP (keys.zip (sortL l))).map Prod.snd).map ofT) = .mk 17 n u s ((sortP (keys.zip (sortL l))).map Prod.fst) (((sortP (keys.zip (sortL l))).map Prod.snd).map ofT) := by
      unfold formN
      rw [if_neg (by decide), if_neg (by decide), if_neg (by decide), if_neg (by decide)]
    rw [hf, List.map_map, List.map_map, List.map_map]
    rfl
  · rw [if_neg e, if_neg e, of_eq, sortL_map, List.map_map]
    rfl
/-- Kinds of a normal form. -/
def norK (k u : Int) : Prop := k = 1 ∨ k = 2 ∨ k = 3 ∨ k = 6 ∨ k = 7 ∨ k = 10 ∨ k = 17 ∨ (k = 4 ∧ 9223372036854775808 ≤ u)
def Tr.n : Tr → Int | .mk _ n _ _ _ _ => n
def Tr.u : Tr → Int | .mk _ _ u _ _ _ => u
theorem nor_kinds : ∀ (m : Nat) (t : Tr) (b c : Nat), t.size ≤ m → valT b t → ∀ p ∈ preT c (ofT t), norK p.2.kind p.2.u := by
  intro m
  induction m with
  | zero => intro t b c h; have := t.size_pos; omega
  | succ m ih =>
    intro t b c h hv p hp
    have hn := hv
    obtain ⟨k, n, u, s, keys, l⟩ := t
    obtain ⟨v1, v2, v3, v4, _⟩ := val_node hn
    simp only [Tr.size] at h
    have hall := valL_iff.1 hv.2.2.2
    have hk : ∀ c, ∀ p ∈ preL c (l.map ofT), norK p.2.kind p.2.u := fun c p hp => by
      obtain ⟨x, hx, hpx⟩ := mem_preL'.1 hp
      obtain ⟨y, hy, rfl⟩ := List.mem_map.1 hx
      exact ih y (b + 1) c (by have := size_mem hy; omega) (hall y hy) p hpx
    rw [of_eq] at hp
    unfold formN at hp
    split at hp
    · split at hp <;> (simp only [preT, preL, List.mem_cons, List.not_mem_nil, or_false] at hp; subst hp; simp only [Tr.kind, Tr.u]; unfold norK; omega)
    · split at hp
      · simp only [preT, preL, List.mem_cons, List.not_mem_nil, or_false] at hp; subst hp; simp only [Tr.kind, Tr.u]; unfold norK; omega
      · split at hp
        · simp only [preT, preL, List.mem_cons, List.not_mem_nil, or_false] at hp; subst hp; simp only [Tr.kind, Tr.u]; unfold norK; omega
        · split at hp
          · simp only [preT, List.mem_cons] at hp
            rcases hp with rfl | hp
            · simp only [Tr.kind, Tr.u]; unfold norK; omega
            · exact hk _ p hp
          · simp only [preT, List.mem_cons] at hp
            rcases hp with rfl | hp
            · simp only [Tr.kind, Tr.u]; unfold norK; omega
            · exact hk _ p hp
/-- What a normal form is: valid, of the same size, sorted as the tree, its own normal form; and its nodes are the nodes' forms. -/
theorem of_val : ∀ (m : Nat) (t : Tr) (b : Nat), t.size ≤ m → valT b t → valT b (ofT t) ∧ (ofT t).size = t.size ∧ ofT (ofT t) = ofT t ∧ (srtT t → srtT (ofT t)) ∧ ∀ c, preT c (ofT t) = (preT c t).map fun p => (p.1, ofT p.2) := by
  intro m
  induction m with
  | zero => intro t b h; have := t.size_pos; omega
  | succ m ih =>
    intro t b h hv
    have hn := hv
    obtain ⟨k, n, u, s, keys, l⟩ := t
    obtain ⟨v1, v2, v3, v4, vn, vu, vs⟩ := val_node hn
    simp only [Tr.size] at h
    have hall := valL_iff.1 hv.2.2.2
    have hk : ∀ x ∈ l, _ := fun x hx => ih x (b + 1) (by have := size_mem hx; omega) (hall x hx)
    obtain ⟨h1, h2, h3, h4⟩ := hv
    rw [such_iff] at h2
    rw [keyed_iff] at h3
    obtain ⟨s1, s2, s3, s4, s5, s6, s7, s8, s9⟩ := h2
    have hpre : ∀ c, preL c (l.map ofT) = (preL c l).map fun p => (p.1, ofT p.2) := by
      intro c
      have : ∀ q : List Tr, (∀ x ∈ q, x ∈ l) → preL c (q.map ofT) = (preL c q).map fun p => (p.1, ofT p.2) := by
        intro q
        induction q with
        | nil => intro _; rfl
        | cons x r ihr => intro hs; simp only [List.map_cons, preL, List.map_append]; rw [(hk x (hs x (by simp))).2.2.2.2 c, ihr fun y hy => hs y (by simp [hy])]
      exact this l fun _ h => h
    have hvl : valL (b + 1) (l.map ofT) := valL_iff.2 fun x hx => by
      obtain ⟨y, hy, rfl⟩ := List.mem_map.1 hx
      exact (hk y hy).1
    have hszl : sizeL (l.map ofT) = sizeL l := sizeL_map fun x hx => (hk x hx).2.1
    have hoo : (l.map ofT).map ofT = l.map ofT := by
      rw [List.map_map]
      exact List.map_congr_left fun x hx => (hk x hx).2.2.1
    have hss : srtT (.mk k n u s keys l) → ∀ x ∈ l.map ofT, srtT x := fun h x hx => by
      obtain ⟨y, hy, rfl⟩ := List.mem_map.1 hx
      exact (hk y hy).2.2.2.1 ((srt_iff.1 h).2 y hy)
    have hEo := of_eq k n u s keys l
    have leaf : ∀ {k' n' u' : Int} {s' : ByteArray}, l = [] → ofT (.mk k n u s keys l) = .mk k' n' u' s' [] [] → suchB (.mk k' n' u' s' [] []) = true → keyedE (.mk k' n' u' s' [] []) = 0 → ofT (.mk k' n' u' s' [] []) = .mk k' n' u' s' [] [] →
        valT b (ofT (.mk k n u s keys l)) ∧ (ofT (.mk k n u s keys l)).size = (Tr.mk k n u s keys l).size ∧ ofT (ofT (.mk k n u s keys l)) = ofT (.mk k n u s keys l) ∧ (srtT (.mk k n u s keys l) → srtT (ofT (.mk k n u s keys l))) ∧ ∀ c, preT c (ofT (.mk k n u s keys l)) = (preT c (.mk k n u s keys l)).map fun p => (p.1, ofT p.2) := by
      intro k' n' u' s' hl e e1 e2 e3
      subst hl
      refine ⟨?_, ?_, ?_, fun _ => ?_, fun c => ?_⟩
      · rw [e]; exact ⟨h1, e1, e2, trivial⟩
      · rw [e]; rfl
      · rw [e, e3]
      · rw [e, srt_iff]; exact ⟨List.Pairwise.nil, by simp⟩
      · simp only [preT, preL, List.map_cons, List.map_nil]
        rw [e]; simp [preT, preL]
    by_cases c4 : k = 4 ∨ k = 9
    · have hl := v2 (by omega)
      by_cases hu : u < 9223372036854775808
      · refine leaf hl (k' := 3) (n' := u) (u' := 0) (s' := ⟨#[]⟩) (by rw [hEo]; unfold formN; rw [if_pos c4, if_pos hu]) (such_iff.2 ⟨by decide, .inl (by decide), .inr rfl, .inr nil_bytes, .inr rfl, fun h => absurd h (by decide), fun h => absurd h (by decide), fun h => absurd h (by decide), by simp⟩) rfl ?_
        rw [of_eq]; unfold formN; rfl
      · refine leaf hl (k' := 4) (n' := 0) (u' := u) (s' := ⟨#[]⟩) (by rw [hEo]; unfold formN; rw [if_pos c4, if_neg hu]) (such_iff.2 ⟨by decide, .inr rfl, .inl (by decide), .inr nil_bytes, .inr rfl, fun h => absurd h (by decide), fun h => absurd h (by decide), fun h => absurd h (by decide), by simp⟩) rfl ?_
        rw [of_eq]; unfold formN; rw [if_pos (by decide), if_neg hu]
    by_cases c8 : k = 8
    · have hl := v2 (by omega)
      refine leaf hl (k' := 3) (n' := n) (u' := 0) (s' := ⟨#[]⟩) (by rw [hEo]; unfold formN; rw [if_neg c4, if_pos c8]) (such_iff.2 ⟨by decide, .inl (by decide), .inr rfl, .inr nil_bytes, .inr rfl, fun h => absurd h (by decide), fun h => absurd h (by decide), fun h => absurd h (by decide), by simp⟩) rfl ?_
      rw [of_eq]; unfold formN; rfl
    by_cases c5 : k = 5
    · have hl := v2 (by omega)
      refine leaf hl (k' := 6) (n' := 0) (u' := 0) (s' := s) (by rw [hEo]; unfold formN; rw [if_neg c4, if_neg c8, if_pos c5]) (such_iff.2 ⟨by decide, .inr rfl, .inr rfl, .inl (by decide), .inr rfl, fun h => absurd h (by decide), fun h => absurd h (by decide), fun h => absurd h (by decide), by simp⟩) (keyed_iff.2 ⟨by omega, rfl⟩) ?_
      rw [of_eq]; unfold formN; rfl
    by_cases cv : 11 ≤ k ∧ k ≤ 16
    · have e : ofT (.mk k n u s keys l) = .mk 10 0 0 ⟨#[]⟩ [] (l.map ofT) := by rw [hEo]; unfold formN; rw [if_neg c4, if_neg c8, if_neg c5, if_pos cv]
      refine ⟨?_, ?_, ?_, fun h => ?_, fun c => ?_⟩
      · rw [e]
        refine ⟨h1, such_iff.2 ⟨by decide, .inr rfl, .inr rfl, .inr nil_bytes, .inr rfl, fun h => absurd h (by decide), fun h => absurd h (by decide), fun h => absurd h (by decide), fun x _ => by simp [partF, otherB]⟩, rfl, hvl⟩
      · rw [e]; simp only [Tr.size, hszl]
      · rw [e, of_eq, hoo]; unfold formN; rfl
      · rw [e, srt_iff]; exact ⟨List.Pairwise.nil, hss h⟩
      · simp only [preT, List.map_cons]
        rw [e]; simp only [preT, hpre]
    · have e : ofT (.mk k n u s keys l) = .mk k n u s keys (l.map ofT) := by rw [hEo]; unfold formN; rw [if_neg c4, if_neg c8, if_neg c5, if_neg cv]
      have hkl : k = 10 ∨ k = 17 ∨ l = [] := by
        by_cases h9 : k ≤ 9
        · exact .inr (.inr (v2 h9))
        · omega
      refine ⟨?_, ?_, ?_, fun h => ?_, fun c => ?_⟩
      · rw [e]
        refine ⟨h1, such_iff.2 ⟨s1, s2, s3, s4, s5, s6, by rw [List.length_map]; exact s7, by rw [List.length_map]; exact s8, fun x hx => ?_⟩, keyed_iff.2 h3, hvl⟩
        rcases hkl with rfl | rfl | rfl
        · simp [partF, otherB]
        · simp [partF, otherB]
        · cases hx
      · rw [e]; simp only [Tr.size, hszl]
      · rw [e, of_eq, hoo]; unfold formN; rw [if_neg c4, if_neg c8, if_neg c5, if_neg cv]
      · rw [e, srt_iff]; exact ⟨(srt_iff.1 h).1, hss h⟩
      · simp only [preT, List.map_cons]
        rw [e]; simp only [preT, hpre]

/-! ### retagging -/
mutual
/-- The law's other kinds. -/
def retT : Tr → Int → Tr
  | .mk k n u s keys l, by_ =>
    if (k = 3 ∨ k = 8) ∧ by_ % 3 = 1 ∧ 0 ≤ n then .mk 4 0 n ⟨#[]⟩ [] []
    else if k = 3 ∧ by_ % 3 = 2 then .mk 8 n 0 ⟨#[]⟩ [] []
    else if k = 4 ∧ by_ % 3 = 1 then .mk 9 0 u ⟨#[]⟩ [] []
    else if k = 5 ∧ by_ % 2 = 0 then .mk 6 0 0 s [] []
    else if 10 < k ∧ k < 17 then .mk 10 n u s keys (retL l (by_ / 2) 0)
    else .mk k n u s keys (retL l (by_ / 2) 0)
def retL : List Tr → Int → Nat → List Tr
  | [], _, _ => []
  | t :: r, q, i => retT t (q + i) :: retL r q (i + 1)
end
theorem retL_length : ∀ (l : List Tr) (q : Int) (i : Nat), (retL l q i).length = l.length
  | [], _, _ => rfl
  | t :: r, q, i => by simp [retL, retL_length r]
/-- Retagging keeps a tree valid, its size and its normal form. -/
theorem retL_mem : ∀ (l : List Tr) (q : Int) (i : Nat) (y : Tr), y ∈ retL l q i → ∃ x ∈ l, ∃ j, y = retT x j
  | [], _, _, _, h => by cases h
  | t :: r, q, i, y, h => by
    simp only [retL] at h
    rcases List.mem_cons.1 h with rfl | h
    · exact ⟨t, by simp, _, rfl⟩
    · obtain ⟨x, hx, j, e⟩ := retL_mem r q (i + 1) y h
      exact ⟨x, by simp [hx], j, e⟩
theorem retL_map {f : Tr → Tr} : ∀ (l : List Tr) (q : Int) (i : Nat), (∀ x ∈ l, ∀ j, f (retT x j) = f x) → (retL l q i).map f = l.map f
  | [], _, _, _ => rfl
  | t :: r, q, i, h => by simp only [retL, List.map_cons]; rw [h t (by simp), retL_map r q (i + 1) fun x hx => h x (by simp [hx])]
theorem retL_size : ∀ (l : List Tr) (q : Int) (i : Nat), (∀ x ∈ l, ∀ j, (retT x j).size = x.size) → sizeL (retL l q i) = sizeL l
  | [], _, _, _ => rfl
  | t :: r, q, i, h => by simp only [retL, sizeL]; rw [h t (by simp), retL_size r q (i + 1) fun x hx => h x (by simp [hx])]
/-- Retagging keeps a tree valid, its size and its normal form. -/
theorem ret_val : ∀ (m : Nat) (t : Tr) (b : Nat) (by_ : Int), t.size ≤ m → valT b t → (∀ p ∈ preT b t, p.2.n ≤ 9223372036854775807) → valT b (retT t by_) ∧ (retT t by_).size = t.size ∧ norT (retT t by_) = norT t := by
  intro m
  induction m with
  | zero => intro t b by_ h; have := t.size_pos; omega
  | succ m ih =>
    intro t b by_ h hv hi
    have hn := hv
    obtain ⟨k, n, u, s, keys, l⟩ := t
    obtain ⟨v1, v2, v3, v4, vn, vu, vs⟩ := val_node hn
    simp only [Tr.size] at h
    have hall := valL_iff.1 hv.2.2.2
    have hnm : n ≤ 9223372036854775807 := hi (b, .mk k n u s keys l) (by simp [preT])
    have hk : ∀ x ∈ l, ∀ j, valT (b + 1) (retT x j) ∧ (retT x j).size = x.size ∧ norT (retT x j) = norT x := fun x hx j => ih x (b + 1) j (by have := size_mem hx; omega) (hall x hx) (fun p hp => hi p (by simp only [preT]; exact List.mem_cons_of_mem _ (mem_preL'.2 ⟨x, hx, hp⟩)))
    obtain ⟨h1, h2, h3, h4⟩ := hv
    rw [such_iff] at h2
    rw [keyed_iff] at h3
    obtain ⟨s1, s2, s3, s4, s5, s6, s7, s8, s9⟩ := h2
    have hvl : ∀ q i, valL (b + 1) (retL l q i) := fun q i => valL_iff.2 fun y hy => by
      obtain ⟨x, hx, j, rfl⟩ := retL_mem l q i y hy
      exact (hk x hx j).1
    have hsl : ∀ q i, sizeL (retL l q i) = sizeL l := fun q i => retL_size l q i fun x hx j => (hk x hx j).2.1
    have hnl : ∀ q i, (retL l q i).map norT = l.map norT := fun q i => retL_map l q i fun x hx j => (hk x hx j).2.2
    have leaf : ∀ {k' n' u' : Int} {s' : ByteArray}, l = [] → retT (.mk k n u s keys l) by_ = .mk k' n' u' s' [] [] → suchB (.mk k' n' u' s' [] []) = true → keyedE (.mk k' n' u' s' [] []) = 0 → k' ≠ 17 → k ≠ 17 → formN k' n' u' s' [] [] = formN k n u s keys [] →
        valT b (retT (.mk k n u s keys l) by_) ∧ (retT (.mk k n u s keys l) by_).size = (Tr.mk k n u s keys l).size ∧ norT (retT (.mk k n u s keys l) by_) = norT (.mk k n u s keys l) := by
      intro k' n' u' s' hl e e1 e2 e3 e4 e5
      subst hl
      rw [e]
      refine ⟨⟨h1, e1, e2, trivial⟩, rfl, ?_⟩
      rw [nor_eq, nor_eq, if_neg e3, if_neg e4]
      exact e5
    by_cases c1 : (k = 3 ∨ k = 8) ∧ by_ % 3 = 1 ∧ 0 ≤ n
    · have hl := v2 (by omega)
      refine leaf (k' := 4) (n' := 0) (u' := n) (s' := ⟨#[]⟩) hl (by simp only [retT]; rw [if_pos c1]) (such_iff.2 ⟨by decide, .inr rfl, .inl (by decide), .inr nil_bytes, .inr rfl, fun h => absurd h (by decide), fun h => absurd h (by decide), fun h => absurd h (by decide), by simp⟩) rfl (by decide) (by omega) ?_
      have hu : n < 9223372036854775808 := by omega
      have e1 : formN 4 0 n ⟨#[]⟩ [] [] = .mk 3 n 0 ⟨#[]⟩ [] [] := by unfold formN; rw [if_pos (by decide), if_pos hu]
      rw [e1]
      unfold formN
      rcases c1.1 with e | e
      · subst e
        rw [if_neg (by decide), if_neg (by decide), if_neg (by decide), if_neg (by decide), vu (by decide) (by decide), vs (by decide) (by decide) (by decide), v3 (by decide)]
      · subst e
        rw [if_neg (by decide), if_pos rfl]
    by_cases c2 : k = 3 ∧ by_ % 3 = 2
    · have hl := v2 (by omega)
      refine leaf (k' := 8) (n' := n) (u' := 0) (s' := ⟨#[]⟩) hl (by simp only [retT]; rw [if_neg c1, if_pos c2]) (such_iff.2 ⟨by decide, .inl (by decide), .inr rfl, .inr nil_bytes, .inr rfl, fun h => absurd h (by decide), fun h => absurd h (by decide), fun h => absurd h (by decide), by simp⟩) rfl (by decide) (by omega) ?_
      obtain ⟨rfl, _⟩ := c2
      unfold formN
      rw [if_neg (by decide), if_pos rfl, if_neg (by decide), if_neg (by decide), if_neg (by decide), if_neg (by decide), vu (by decide) (by decide), vs (by decide) (by decide) (by decide), v3 (by decide)]
    by_cases c3 : k = 4 ∧ by_ % 3 = 1
    · have hl := v2 (by omega)
      refine leaf (k' := 9) (n' := 0) (u' := u) (s' := ⟨#[]⟩) hl (by simp only [retT]; rw [if_neg c1, if_neg c2, if_pos c3]) (such_iff.2 ⟨by decide, .inr rfl, .inl (by decide), .inr nil_bytes, .inr rfl, fun h => absurd h (by decide), fun h => absurd h (by decide), fun h => absurd h (by decide), by simp⟩) rfl (by decide) (by omega) ?_
      obtain ⟨rfl, _⟩ := c3
      unfold formN
      rw [if_pos (show (9 : Int) = 4 ∨ (9 : Int) = 9 by decide), if_pos (show (4 : Int) = 4 ∨ (4 : Int) = 9 by decide)]
    by_cases c4 : k = 5 ∧ by_ % 2 = 0
    · have hl := v2 (by omega)
      refine leaf (k' := 6) (n' := 0) (u' := 0) (s' := s) hl (by simp only [retT]; rw [if_neg c1, if_neg c2, if_neg c3, if_pos c4]) (such_iff.2 ⟨by decide, .inr rfl, .inr rfl, .inl (by decide), .inr rfl, fun h => absurd h (by decide), fun h => absurd h (by decide), fun h => absurd h (by decide), by simp⟩) (keyed_iff.2 ⟨by omega, rfl⟩) (by decide) (by omega) ?_
      obtain ⟨rfl, _⟩ := c4
      unfold formN
      rw [if_neg (by decide), if_neg (by decide), if_neg (by decide), if_neg (by decide), if_neg (by decide), if_neg (by decide), if_pos rfl]
    by_cases c5 : 10 < k ∧ k < 17
    · have e : retT (.mk k n u s keys l) by_ = .mk 10 n u s keys (retL l (by_ / 2) 0) := by simp only [retT]; rw [if_neg c1, if_neg c2, if_neg c3, if_neg c4, if_pos c5]
      have en := vn (by omega) (by omega) (by omega)
      have eu := vu (by omega) (by omega)
      have es := vs (by omega) (by omega) (by omega)
      have ek := v3 (by omega)
      rw [e]
      subst en eu es ek
      refine ⟨⟨h1, such_iff.2 ⟨by decide, .inr rfl, .inr rfl, .inr nil_bytes, .inr rfl, fun h => absurd h (by decide), fun h => absurd h (by decide), fun h => absurd h (by decide), fun x _ => by simp [partF, otherB]⟩, rfl, hvl _ _⟩, ?_, ?_⟩
      · simp only [Tr.size, hsl]
      · rw [nor_eq, nor_eq, if_neg (by decide), if_neg (by omega), hnl]
        unfold formN
        rw [if_neg (by decide), if_neg (by decide), if_neg (by decide), if_neg (by decide), if_neg (by omega), if_neg (by omega), if_neg (by omega), if_pos (by omega)]
    · have e : retT (.mk k n u s keys l) by_ = .mk k n u s keys (retL l (by_ / 2) 0) := by simp only [retT]; rw [if_neg c1, if_neg c2, if_neg c3, if_neg c4, if_neg c5]
      rw [e]
      have hkl : k = 10 ∨ k = 17 ∨ l = [] := by
        by_cases h9 : k ≤ 9
        · exact .inr (.inr (v2 h9))
        · omega
      refine ⟨⟨h1, such_iff.2 ⟨s1, s2, s3, s4, s5, s6, by rw [retL_length]; exact s7, by rw [retL_length]; exact s8, fun x hx => ?_⟩, keyed_iff.2 h3, hvl _ _⟩, ?_, ?_⟩
      · rcases hkl with rfl | rfl | rfl
        · simp [partF, otherB]
        · simp [partF, otherB]
        · simp [retL] at hx
      · simp only [Tr.size, hsl]
      · rw [nor_eq, nor_eq, hnl]
end Go.Proofs.Ytfbeepkogcmlmaa

/-
  Normal forms: Of. Conditions: the argument can be read.
-/
namespace Go.Proofs.Ytfbeepkogcmlmaa
open Go Go.ChangeShapes Go.WideShapes Go.ChangeAt Go.RowKit Go.Joins Go.Deep
set_option linter.unusedVariables false
set_option linter.unusedSimpArgs false

/-- What Of hands back. -/
def OfOut (w : World) (t : Tr) (r : Ending) (w' : World) : Prop :=
  Grew w w' ∧ ((checkE t ≠ 0 ∧ r = .returned (.tuple #[zeroNode, .int .i64 (checkE t)])) ∨ (checkE t = 0 ∧ ∃ v S, r = .returned (.tuple #[v, .int .i64 0]) ∧ OwnT w' w.heap.size (ofT (sortT t)) v S ∧ ∀ g, S g → Fresh w w' g))
set_option maxRecDepth 100000 in
set_option maxHeartbeats 4000000 in
theorem Of_any (t : Tr) (v : Value) (w : World) (hn : NodeAt w t v) (hsz : t.size ≤ 1099511627776) : Calls Try.prog 10 #[v] w fun r w' => OfOut w t r w' := by
  have HC := Lib.hid hn
  obtain ⟨k, n, u, s, a4, n4, c4, a5, n5, c5, rfl⟩ := hn.node6
  obtain ⟨N, hN⟩ : ∃ N, w.heap.size = N := ⟨_, rfl⟩
  go_enter Try.func10, Try.ntmps10
  go_wp2_with fail
  have hb1 := heap_alloc_new w (.cells #[.int .i64 k, .int .i64 n, .int .u64 u, .string s, .slice a4 n4 c4, .slice a5 n5 c5] 26)
  have hg1 := (Grew.refl w).alloc (.cells #[.int .i64 k, .int .i64 n, .int .u64 u, .string s, .slice a4 n4 c4, .slice a5 n5 c5] 26)
  have hs1 : (w.alloc (.cells #[.int .i64 k, .int .i64 n, .int .u64 u, .string s, .slice a4 n4 c4, .slice a5 n5 c5] 26)).heap.size = w.heap.size + 1 := World.size_alloc _ _
  generalize (w.alloc (.cells #[.int .i64 k, .int .i64 n, .int .u64 u, .string s, .slice a4 n4 c4, .slice a5 n5 c5] 26)) = w1 at *
  have hb2 := heap_alloc_new w1 (.cells #[.int .i64 0, .int .i64 0, .int .u64 0, .string ⟨#[]⟩, .slice none 0 0, .slice none 0 0] 26)
  have hg2 := (Grew.refl w1).alloc (.cells #[.int .i64 0, .int .i64 0, .int .u64 0, .string ⟨#[]⟩, .slice none 0 0, .slice none 0 0] 26)
  rw [hs1, hN] at hb2
  generalize (w1.alloc (.cells #[.int .i64 0, .int .i64 0, .int .u64 0, .string ⟨#[]⟩, .slice none 0 0, .slice none 0 0] 26)) = w2 at *
  rw [hN] at hb1
  replace hb1 := hg2.heap hb1
  have hG := hg1.trans hg2
  have HN := Lib.hid hN
  have H2 : Hid (N + 1 < w2.heap.size ∧ w.heap.size ≤ w2.heap.size) := ⟨(Array.getElem?_eq_some_iff.1 hb2).1, hG.size⟩
  clear hs1 hg1 hg2 hn hN
  refine (sorted_any t _ _ (HC.out.grew hG) hsz).mono ?_
  intro r w3 hs
  obtain ⟨hg3, hs⟩ := hs
  replace hG := hG.trans hg3
  replace hb2 := hg3.heap hb2
  have hsz2 := (Array.getElem?_eq_some_iff.1 hb2).1
  have HG := Lib.hid hG
  have HG3 := Lib.hid hg3
  have HB := Lib.hid hb2
  clear hG hb1
  obtain ⟨e, he⟩ : ∃ e, checkE t = e := ⟨_, rfl⟩
  have HE := Lib.hid he
  rw [he] at hs
  rcases hs with ⟨h0, rfl⟩ | ⟨h0, sv, S, rfl, ho, hf⟩
  · have hb : (e == 0) = false := by simpa using h0
    have H0 := Lib.hid h0
    clear he h0 hg3
    rw [show zeroNode = .agg #[.int .i64 0, .int .i64 0, .int .u64 0, .string ⟨#[]⟩, .slice none 0 0, .slice none 0 0] from rfl]
    go_upto_region 2 with fail
    have hg4 := (Grew.refl w3).alloc (.cells #[.int .i64 0, .int .i64 0, .int .u64 0, .string ⟨#[]⟩, .slice none 0 0, .slice none 0 0] 26)
    have hb4 := hg4.heap HB.out
    have HG4 := Lib.hid (HG.out.trans hg4)
    generalize (w3.alloc (.cells #[.int .i64 0, .int .i64 0, .int .u64 0, .string ⟨#[]⟩, .slice none 0 0, .slice none 0 0] 26)) = w4 at *
    have z0 := row_cellT hb4 0 _ rfl
    have z1 := row_cellT hb4 1 _ rfl
    have z2 := row_cellT hb4 2 _ rfl
    have z3 := row_cellT hb4 3 _ rfl
    have z4 := row_cellT hb4 4 _ rfl
    have z5 := row_cellT hb4 5 _ rfl
    have f0 := row_frozen hb4 0
    have f1 := row_frozen hb4 1
    have f2 := row_frozen hb4 2
    have f3 := row_frozen hb4 3
    have f4 := row_frozen hb4 4
    have f5 := row_frozen hb4 5
    have HFIN : Hid (OfOut w t (.returned (.tuple #[.agg #[.int .i64 0, .int .i64 0, .int .u64 0, .string ⟨#[]⟩, .slice none 0 0, .slice none 0 0], .int .i64 e])) (store6 w4 (N + 1) (.int .i64 0) (.int .i64 0) (.int .u64 0) (.string ⟨#[]⟩) (.slice none 0 0) (.slice none 0 0))) := by
      have hN := HN.out
      have hT := moved_store6 w4 (N + 1) (.int .i64 0) (.int .i64 0) (.int .u64 0) (.string ⟨#[]⟩) (.slice none 0 0) (.slice none 0 0)
      exact ⟨Moved.fresh HG4.out hT (fun g e => by omega), .inl ⟨by rw [HE.out]; exact H0.out, by rw [HE.out]; rfl⟩⟩
    clear hb4 hg4
    go_wp2_with fail
    refine bodyPost_ret (v := .tuple #[.agg #[.int .i64 0, .int .i64 0, .int .u64 0, .string ⟨#[]⟩, .slice none 0 0, .slice none 0 0], .int .i64 e]) (by simp [results, Try.results10, go_sem, z0, z1, z2, z3, z4, z5]) rfl ?_
    exact HFIN.out
  · subst h0
    have HO := Lib.hid (And.intro ho hf)
    obtain ⟨k', n', u', s', a4', n4', c4', a5', n5', c5', rfl⟩ := ho.node6
    clear ho hf he hg3
    go_upto_region 4 with fail
    have hg4 := (Grew.refl w3).alloc (.cells #[.int .i64 k', .int .i64 n', .int .u64 u', .string s', .slice a4' n4' c4', .slice a5' n5' c5'] 26)
    have hb4 := hg4.heap HB.out
    have hv4 := heap_alloc_new w3 (.cells #[.int .i64 k', .int .i64 n', .int .u64 u', .string s', .slice a4' n4' c4', .slice a5' n5' c5'] 26)
    have hs4 : (w3.alloc (.cells #[.int .i64 k', .int .i64 n', .int .u64 u', .string s', .slice a4' n4' c4', .slice a5' n5' c5'] 26)).heap.size = w3.heap.size + 1 := World.size_alloc _ _
    obtain ⟨M, hM⟩ : ∃ M, w3.heap.size = M := ⟨_, rfl⟩
    have HG4 := Lib.hid (HG.out.trans hg4)
    have HO4 : Hid (OwnT (w3.alloc (.cells #[.int .i64 k', .int .i64 n', .int .u64 u', .string s', .slice a4' n4' c4', .slice a5' n5' c5'] 26)) w2.heap.size (sortT t) (.agg #[.int .i64 k', .int .i64 n', .int .u64 u', .string s', .slice a4' n4' c4', .slice a5' n5' c5']) S ∧ ∀ g, S g → w2.heap.size ≤ g ∧ g < M) := ⟨HO.out.1.grew hg4, fun g hg => by have := HO.out.2 g hg; rw [← hM]; exact this⟩
    generalize (w3.alloc (.cells #[.int .i64 k', .int .i64 n', .int .u64 u', .string s', .slice a4' n4' c4', .slice a5' n5' c5'] 26)) = w4 at *
    rw [hM] at hv4 hs4 ⊢
    have d0 := row_cellT hv4 0 _ rfl
    have d1 := row_cellT hv4 1 _ rfl
    have d2 := row_cellT hv4 2 _ rfl
    have d3 := row_cellT hv4 3 _ rfl
    have d4 := row_cellT hv4 4 _ rfl
    have d5 := row_cellT hv4 5 _ rfl
    have HH := Lib.hid (And.intro hb4 (And.intro hv4 (And.intro hs4 (And.intro hM hsz2))))
    clear hb4 hv4 hs4 hM hg4 hsz2
    have HFEW : Hid (Few (sortT t)) := few_val _ _ 0 (Nat.le_refl _) (by have := (check_val.1 HE.out); rw [(val_sort t.size t 0 (Nat.le_refl _) this.2).2]; exact this.1) (val_sort t.size t 0 (Nat.le_refl _) (check_val.1 HE.out).2).1
    have H2N : Hid (N + 1 < w2.heap.size ∧ w2.heap.size ≤ M ∧ w.heap.size ≤ w2.heap.size) := ⟨H2.out.1, by rw [← HH.out.2.2.2.1]; exact HG3.out.size, H2.out.2⟩
    go_region_with (first
      | (go_at_call 29; refine (forms_any _).mono ?_; rintro r w5 ⟨bq, rfl, hbq, hmq, hgq⟩; replace hgq := Grew.trans (Grew.refl w4).drew hgq; have e0 := hgq.cell d0; have e1 := hgq.cell d1; have e2 := hgq.cell d2; have e3 := hgq.cell d3; have e4 := hgq.cell d4; have e5 := hgq.cell d5)
      | (go_at_call 28; refine (of_any (sortT t).size (sortT t) (Nat.le_refl _) HFEW.out _ w5 w2.heap.size bq S (HO4.out.1.grew hgq) ?_ ?_ hmq ?_).mono ?_; exact Nat.le_trans H2N.out.2.1 (Nat.le_trans (by have := HH.out.2.2.1; omega) hgq.size); exact fun g hg => Nat.lt_of_lt_of_le (HO4.out.2 g hg).2 (Nat.le_trans (by have := HH.out.2.2.1; omega) hgq.size); exact fun h => absurd (HO4.out.2 bq h).2 (by have := HH.out.2.2.1; have h6 : w4.heap.size ≤ bq := hbq; omega); rintro r w6 ⟨v6, S6, rfl, ho6, hm6, hz6, hf6⟩; obtain ⟨rk, rn, ru, rs, ra4, rn4, rc4, ra5, rn5, rc5, rfl⟩ := ho6.node6; have hb6 := hm6.heap (hgq.heap HH.out.1) (fun h => by have h7 := (HO4.out.2 _ h).1; have h8 := H2N.out.1; omega); have z0 := row_cellT hb6 0 _ rfl; have z1 := row_cellT hb6 1 _ rfl; have z2 := row_cellT hb6 2 _ rfl; have z3 := row_cellT hb6 3 _ rfl; have z4 := row_cellT hb6 4 _ rfl; have z5 := row_cellT hb6 5 _ rfl; have f0 := row_frozen hb6 0; have f1 := row_frozen hb6 1; have f2 := row_frozen hb6 2; have f3 := row_frozen hb6 3; have f4 := row_frozen hb6 4; have f5 := row_frozen hb6 5))
    all_goals
      have HFIN : Hid (OfOut w t (.returned (.tuple #[.agg #[.int .i64 rk, .int .i64 rn, .int .u64 ru, .string rs, .slice ra4 rn4 rc4, .slice ra5 rn5 rc5], .int .i64 0])) (store6 w6 (N + 1) (.int .i64 rk) (.int .i64 rn) (.int .u64 ru) (.string rs) (.slice ra4 rn4 rc4) (.slice ra5 rn5 rc5))) := by
        have hN := HN.out
        obtain ⟨q1, q2, q3⟩ := H2N.out
        obtain ⟨_, _, hs4, _, _⟩ := HH.out
        have hg6 : Grew w w6 := Moved.fresh (HG4.out.trans hgq) hm6 (fun g hg => by have := (HO4.out.2 g hg).1; omega)
        have hsq := hgq.size
        have hT : Moved (fun k => k = N + 1) w6 (store6 w6 (N + 1) (.int .i64 rk) (.int .i64 rn) (.int .u64 ru) (.string rs) (.slice ra4 rn4 rc4) (.slice ra5 rn5 rc5)) := moved_store6 w6 (N + 1) _ _ _ _ _ _
        have hsz := hT.size
        have hmz := hm6.size
        refine ⟨Moved.fresh hg6 hT (fun g e => by omega), .inr ⟨HE.out, _, S6, rfl, (ho6.kept hT (fun g hg e => ?_)).base q3, fun g hg => ?_⟩⟩
        · rcases hf6 g hg with h | h
          · have := (HO4.out.2 g h).1; omega
          · have := h.1; omega
        · rcases hf6 g hg with h | h
          · have := HO4.out.2 g h; exact ⟨by omega, by omega⟩
          · exact ⟨by have := h.1; omega, by have := h.2; omega⟩
    all_goals clear hgq hm6 hz6 hf6 ho6 hb6 hmq hbq e0 e1 e2 e3 e4 e5
    all_goals go_wp2_with fail
    all_goals refine bodyPost_ret (v := .tuple #[.agg #[.int .i64 rk, .int .i64 rn, .int .u64 ru, .string rs, .slice ra4 rn4 rc4, .slice ra5 rn5 rc5], .int .i64 0]) (by simp [results, Try.results10, go_sem, z0, z1, z2, z3, z4, z5]) rfl ?_
    all_goals exact HFIN.out
end Go.Proofs.Ytfbeepkogcmlmaa

/-
  Trees: the program's Same (slices.Equal, slices.EqualFunc). Conditions: both nodes lie in memory.
-/
namespace Go.Proofs.Ytfbeepkogcmlmaa
open Go Go.ChangeShapes Go.WideShapes Go.ChangeAt Go.RowKit Go.Joins Go.Deep
set_option linter.unusedVariables false
set_option linter.unusedSimpArgs false

set_option maxRecDepth 100000 in
set_option maxHeartbeats 4000000 in
theorem sequal_any (a b : List ByteArray) (v u : Value) (w : World) (ha : StrsAt w v a) (hb : StrsAt w u b) :
    Calls Try.prog 41 #[v, u] w fun r w' => r = .returned (.bool (decide (a = b))) ∧ Grew w w' := by
  have HA := Lib.hid ha
  have HB := Lib.hid hb
  obtain ⟨aa, ac, rfl, hla, hac, hz1, hz2⟩ := ha
  obtain ⟨ba, bc, rfl, hlb, hbc, hz3, hz4⟩ := hb
  unfold lenok at hac hbc
  have hal : a.length ≤ 9223372036854775807 := by omega
  have hbl : b.length ≤ 9223372036854775807 := by omega
  clear hz1 hz2 hz3 hz4 hac hbc hla hlb
  by_cases hl : a.length = b.length
  · have HL := Lib.hid hl
    rw [← hl] at HB ⊢
    clear hl hbl
    go_enter Try.func41, Try.ntmps41
    go_wp2_with fail
    go_loopw [13] (fun i wr => ∃ k : Nat, k ≤ a.length ∧ i = .int .i64 k ∧ Hid (a.take k = b.take k ∧ Grew w wr)) (fun i _ => a.length - (intOf i).toNat)
    case atStart => exact ⟨0, Nat.zero_le _, rfl, by show _ ∧ _; exact ⟨by simp, Grew.refl _⟩⟩
    case round =>
      obtain ⟨k, hk, rfl, HW⟩ := hrel
      by_cases hlt : k < a.length
      · obtain ⟨x, hx⟩ : ∃ x, a[k]? = some x := ⟨_, List.getElem?_eq_getElem hlt⟩
        have hltb : k < b.length := by have := HL.out; omega
        obtain ⟨y, hy⟩ : ∃ y, b[k]? = some y := ⟨_, List.getElem?_eq_getElem hltb⟩
        obtain ⟨ax, ab, aoff, rfl, hca⟩ : lenok x.size ∧ ∃ b off, aa = some ⟨b, off, none⟩ ∧ w.cell? ⟨b, off + k, none⟩ = some (.string x) := by
          obtain ⟨a', c', e, _, _, _, h⟩ := HA.out
          injection e with e1 e2 e3
          subst e1
          exact h k x hx
        obtain ⟨bx, bb, boff, rfl, hcb⟩ : lenok y.size ∧ ∃ b off, ba = some ⟨b, off, none⟩ ∧ w.cell? ⟨b, off + k, none⟩ = some (.string y) := by
          obtain ⟨a', c', e, _, _, _, h⟩ := HB.out
          injection e with e1 e2 e3
          subst e1
          exact h k y hy
        have c0 := HW.out.2.cell hca
        have c1 := HW.out.2.cell hcb
        have HXY := Lib.hid (And.intro hx hy)
        clear hx hy hca hcb ax bx
        have hlti : (k : Int) < a.length := by omega
        by_cases hxy : x = y
        · subst hxy
          go_wp2_with fail
          go_quiet (fail)
          go_wp2
          go_roundw
          case rel => exact ⟨k + 1, by omega, by go_num, by
            show _ ∧ _
            obtain ⟨h1, h2⟩ := HXY.out
            exact ⟨by rw [List.take_add_one, List.take_add_one, HW.out.1, h1, h2], HW.out.2.drewN _⟩⟩
          case measure => simp [intOf]; omega
        · have hne : Hid (¬ a = b) := fun e => hxy (by
            obtain ⟨h1, h2⟩ := HXY.out
            rw [e, h2] at h1
            injection h1 with h1
            exact h1.symm)
          have hbne : (x.toList == y.toList) = false := by rw [str_eq]; exact decide_eq_false hxy
          clear hxy
          go_wp2_with fail
          go_quiet (fail)
          go_wp2
          go_ret
          exact ⟨by rw [decide_eq_false hne.out]; rfl, HW.out.2.drewN _⟩
      · have ek : k = a.length := by omega
        subst ek
        have heq : Hid (a = b) := by
          show _ = _
          have h := HW.out.1
          rw [List.take_length, HL.out, List.take_length] at h
          exact h
        go_wp2
        go_ret
        exact ⟨by rw [decide_eq_true heq.out]; rfl, HW.out.2⟩
  · have hne : Hid (¬ a = b) := fun e => hl (by rw [e])
    have hb1 : ((a.length : Int) != b.length) = true := by simp; omega
    go_enter Try.func41, Try.ntmps41
    go_wp2
    go_ret
    exact ⟨by rw [decide_eq_false hne.out]; rfl, Grew.refl _⟩

/-- Same on a tree's children. -/
def SameOn (l : List Tr) : Prop := ∀ x ∈ l, ∀ (y : Tr) (v u : Value) (w : World), NodeAt w x v → NodeAt w y u → Calls Try.prog 26 #[v, u] w fun r w' => ∃ b, r = .returned (.bool b) ∧ (b = true ↔ x = y) ∧ Grew w w'
set_option maxRecDepth 100000 in
set_option maxHeartbeats 4000000 in
theorem equalfunc_any (l l2 : List Tr) (lv lv2 : Value) (vs vs2 : List Value) (w : World) (hr : RowsAt w lv vs) (hk : KidsAt w l vs) (hr2 : RowsAt w lv2 vs2) (hk2 : KidsAt w l2 vs2) (hs : SameOn l) :
    Calls Try.prog 42 #[lv, lv2, .func (.func 26) #[] #[]] w fun r w' => ∃ b, r = .returned (.bool b) ∧ (b = true ↔ l = l2) ∧ Grew w w' := by
  have HR := Lib.hid hr
  have HK := Lib.hid hk
  have HR2 := Lib.hid hr2
  have HK2 := Lib.hid hk2
  have HS := Lib.hid hs
  have hkl := hk.length
  have hkl2 := hk2.length
  obtain ⟨a, c, rfl, hlc, hc, hz1, hz2⟩ := hr
  obtain ⟨a2, c2, rfl, hlc2, hc2, hz3, hz4⟩ := hr2
  unfold lenok at hc hc2
  rw [hkl] at HR hlc ⊢
  rw [hkl2] at HR2 hlc2 ⊢
  have hlen : l.length ≤ 9223372036854775807 := by omega
  have hlen2 : l2.length ≤ 9223372036854775807 := by omega
  clear hz1 hz2 hz3 hz4 hk hk2 hkl hkl2 hlc hc hlc2 hc2 hs
  by_cases hl : l.length = l2.length
  · have HL := Lib.hid hl
    rw [← hl] at HR2 ⊢
    clear hl hlen2
    go_enter Try.func42, Try.ntmps42
    go_wp2_with fail
    go_loopw [17] (fun i wr => ∃ k : Nat, k ≤ l.length ∧ i = .int .i64 k ∧ Hid (l.take k = l2.take k ∧ Grew w wr)) (fun i _ => l.length - (intOf i).toNat)
    case atStart => exact ⟨0, Nat.zero_le _, rfl, by show _ ∧ _; exact ⟨by simp, Grew.refl _⟩⟩
    case round =>
      obtain ⟨k, hk, rfl, HW⟩ := hrel
      by_cases hlt : k < l.length
      · obtain ⟨x, hx⟩ : ∃ x, l[k]? = some x := ⟨_, List.getElem?_eq_getElem hlt⟩
        have hltb : k < l2.length := by have := HL.out; omega
        obtain ⟨y, hy⟩ : ∃ y, l2[k]? = some y := ⟨_, List.getElem?_eq_getElem hltb⟩
        obtain ⟨xv, hxv, hnx⟩ := HK.out.get hx
        obtain ⟨yv, hyv, hny⟩ := HK2.out.get hy
        obtain ⟨b, off, rfl, hc6⟩ : ∃ b off, a = some ⟨b, off, none⟩ ∧ Cells6 wr b (off + k * 6) xv := by
          obtain ⟨a, c, e, _, _, _, h⟩ := HR.out
          injection e with e1 e2 e3
          subst e1
          obtain ⟨b, off, e, h6⟩ := h k xv hxv
          exact ⟨b, off, e, h6.grew HW.out.2⟩
        obtain ⟨b', off', rfl, hd6⟩ : ∃ b off, a2 = some ⟨b, off, none⟩ ∧ Cells6 wr b (off + k * 6) yv := by
          obtain ⟨a, c, e, _, _, _, h⟩ := HR2.out
          injection e with e1 e2 e3
          subst e1
          obtain ⟨b, off, e, h6⟩ := h k yv hyv
          exact ⟨b, off, e, h6.grew HW.out.2⟩
        obtain ⟨xk, xn, xu, xs, xa4, xn4, xc4, xa5, xn5, xc5, rfl⟩ := hnx.node6
        obtain ⟨yk, yn, yu, ys, ya4, yn4, yc4, ya5, yn5, yc5, rfl⟩ := hny.node6
        obtain ⟨e0, e1, e2, e3, e4, e5⟩ := hc6.get
        obtain ⟨f0, f1, f2, f3, f4, f5⟩ := hd6.get
        have g0 := fun o => ((Grew.refl wr).alloc o).cell f0
        have g1 := fun o => ((Grew.refl wr).alloc o).cell f1
        have g2 := fun o => ((Grew.refl wr).alloc o).cell f2
        have g3 := fun o => ((Grew.refl wr).alloc o).cell f3
        have g4 := fun o => ((Grew.refl wr).alloc o).cell f4
        have g5 := fun o => ((Grew.refl wr).alloc o).cell f5
        have HNX := Lib.hid (And.intro hnx hny)
        have HX := Lib.hid (And.intro hx hy)
        have HXM := Lib.hid (List.mem_of_getElem? hx)
        clear hc6 hd6 hx hxv hnx hy hyv hny f0 f1 f2 f3 f4 f5
        have hlti : (k : Int) < l.length := by omega
        go_wp2_with fail
        refine (HS.out x HXM.out y _ _ _ (HNX.out.1.grew (HW.out.2.trans (((Grew.refl wr).alloc _).alloc _))) (HNX.out.2.grew (HW.out.2.trans (((Grew.refl wr).alloc _).alloc _)))).mono ?_
        rintro r w3 ⟨bb, rfl, hbb, hg⟩
        have HG := Lib.hid (HW.out.2.trans (Grew.trans (((Grew.refl wr).alloc _).alloc _) hg))
        clear hg
        cases bb
        · have HBB : Hid (¬ x = y) := fun e => absurd (hbb.2 e) (by decide)
          clear hbb
          go_wp2_with fail
          go_ret
          refine ⟨false, rfl, ⟨fun h => absurd h (by decide), fun h => ?_⟩, HG.out⟩
          obtain ⟨h1, h2⟩ := HX.out
          rw [h, h2] at h1
          injection h1 with h1
          exact absurd h1.symm HBB.out
        · have HBB : Hid (x = y) := hbb.1 rfl
          clear hbb
          go_wp2_with fail
          go_roundw
          case rel => exact ⟨k + 1, by omega, by go_num, by
            show _ ∧ _
            obtain ⟨h1, h2⟩ := HX.out
            exact ⟨by rw [List.take_add_one, List.take_add_one, HW.out.1, h1, h2, HBB.out], HG.out⟩⟩
          case measure => simp [intOf]; omega
      · have ek : k = l.length := by omega
        subst ek
        have heq : Hid (l = l2) := by
          show _ = _
          have h := HW.out.1
          rw [List.take_length, HL.out, List.take_length] at h
          exact h
        go_wp2
        go_ret
        exact ⟨true, rfl, ⟨fun _ => heq.out, fun _ => rfl⟩, HW.out.2⟩
  · have hne : Hid (¬ l = l2) := fun e => hl (by rw [e])
    have hb1 : ((l.length : Int) != l2.length) = true := by simp; omega
    go_enter Try.func42, Try.ntmps42
    go_wp2
    go_ret
    exact ⟨false, rfl, ⟨fun h => absurd h (by decide), fun h => absurd h hne.out⟩, Grew.refl _⟩
-- SAME
set_option maxRecDepth 100000 in
set_option maxHeartbeats 4000000 in
theorem same_any : ∀ (m : Nat) (t : Tr), t.size ≤ m → ∀ (t2 : Tr) (v v2 : Value) (w : World), NodeAt w t v → NodeAt w t2 v2 →
    Calls Try.prog 26 #[v, v2] w fun r w' => ∃ b, r = .returned (.bool b) ∧ (b = true ↔ t = t2) ∧ Grew w w' := by
  intro m
  induction m with
  | zero => intro t ht; have := t.size_pos; omega
  | succ m ih =>
  intro t ht t2 v v2 w hn hn2
  obtain ⟨k, n, u, s, keys, l⟩ := t
  obtain ⟨k2, n2, u2, s2, keys2, l2⟩ := t2
  simp only [NodeAt] at hn hn2
  obtain ⟨hb, kv, lv, vs, rfl, hks, hrows, hkids⟩ := hn
  obtain ⟨hb2, kv2, lv2, vs2, rfl, hks2, hrows2, hkids2⟩ := hn2
  have HKS := Lib.hid hks
  have HKS2 := Lib.hid hks2
  have HR := Lib.hid (And.intro hrows hkids)
  have HR2 := Lib.hid (And.intro hrows2 hkids2)
  obtain ⟨a4, c4, rfl, hx1, hx2, hx3, hx4⟩ := hks
  obtain ⟨b4, d4, rfl, hy1, hy2, hy3, hy4⟩ := hks2
  clear hx1 hx2 hx3 hx4 hy1 hy2 hy3 hy4
  obtain ⟨a5, c5, rfl, hll, hc5, hx3, hx4⟩ := hrows
  obtain ⟨b5, d5, rfl, hll2, hd5, hy3, hy4⟩ := hrows2
  have hS : Hid (SameOn l) := fun x hx y v u w h1 h2 => ih x (by have := size_mem hx; simp only [Tr.size] at ht; omega) y v u w h1 h2
  clear hx3 hx4 hll hy3 hy4 hll2 hc5 hd5 hb hb2 hkids hkids2 ih ht
  by_cases h0 : k = k2
  rotate_left
  · have hne : Hid (¬ (Tr.mk k n u s keys l = Tr.mk k2 n2 u2 s2 keys2 l2)) := fun e => h0 (by injection e)
    have hB : (k == k2) = false := by simp [h0]
    clear h0
    go_enter Try.func26, Try.ntmps26
    go_wp2_with fail
    go_ret
    exact ⟨false, rfl, ⟨fun h => absurd h (by decide), fun h => absurd h hne.out⟩, ((Grew.refl w).alloc _).alloc _⟩
  subst h0
  by_cases h1 : n = n2
  rotate_left
  · have hne : Hid (¬ (Tr.mk k n u s keys l = Tr.mk k n2 u2 s2 keys2 l2)) := fun e => h1 (by injection e)
    have hB : (n == n2) = false := by simp [h1]
    clear h1
    go_enter Try.func26, Try.ntmps26
    go_wp2_with fail
    go_ret
    exact ⟨false, rfl, ⟨fun h => absurd h (by decide), fun h => absurd h hne.out⟩, ((Grew.refl w).alloc _).alloc _⟩
  subst h1
  by_cases h2 : u = u2
  rotate_left
  · have hne : Hid (¬ (Tr.mk k n u s keys l = Tr.mk k n u2 s2 keys2 l2)) := fun e => h2 (by injection e)
    have hB : (u == u2) = false := by simp [h2]
    clear h2
    go_enter Try.func26, Try.ntmps26
    go_wp2_with fail
    go_ret
    exact ⟨false, rfl, ⟨fun h => absurd h (by decide), fun h => absurd h hne.out⟩, ((Grew.refl w).alloc _).alloc _⟩
  subst h2
  by_cases h3 : s = s2
  rotate_left
  · have hne : Hid (¬ (Tr.mk k n u s keys l = Tr.mk k n u s2 keys2 l2)) := fun e => h3 (by injection e)
    have hB : (s.toList == s2.toList) = false := by rw [str_eq]; exact decide_eq_false h3
    clear h3
    go_enter Try.func26, Try.ntmps26
    go_wp2_with fail
    go_ret
    exact ⟨false, rfl, ⟨fun h => absurd h (by decide), fun h => absurd h hne.out⟩, ((Grew.refl w).alloc _).alloc _⟩
  subst h3
  by_cases h4 : keys = keys2
  rotate_left
  · have hne : Hid (¬ (Tr.mk k n u s keys l = Tr.mk k n u s keys2 l2)) := fun e => h4 (by injection e)
    have hB : decide (keys = keys2) = false := decide_eq_false h4
    have HBD := Lib.hid hB
    clear h4 hB
    go_enter Try.func26, Try.ntmps26
    go_wp2_with fail
    have hh := sequal_any keys keys2 _ _ _ (HKS.out.grew (((Grew.refl w).alloc (.cells #[.int .i64 k, .int .i64 n, .int .u64 u, .string s, .slice a4 keys.length c4, .slice a5 vs.length c5] 26)).alloc (.cells #[.int .i64 k, .int .i64 n, .int .u64 u, .string s, .slice b4 keys2.length d4, .slice b5 vs2.length d5] 26))) (HKS2.out.grew (((Grew.refl w).alloc (.cells #[.int .i64 k, .int .i64 n, .int .u64 u, .string s, .slice a4 keys.length c4, .slice a5 vs.length c5] 26)).alloc (.cells #[.int .i64 k, .int .i64 n, .int .u64 u, .string s, .slice b4 keys2.length d4, .slice b5 vs2.length d5] 26)))
    rw [HBD.out] at hh
    refine hh.mono ?_
    clear hh
    rintro r w3 ⟨rfl, hg⟩
    have HG := Lib.hid (Grew.trans (((Grew.refl w).alloc (.cells #[.int .i64 k, .int .i64 n, .int .u64 u, .string s, .slice a4 keys.length c4, .slice a5 vs.length c5] 26)).alloc (.cells #[.int .i64 k, .int .i64 n, .int .u64 u, .string s, .slice b4 keys2.length d4, .slice b5 vs2.length d5] 26)) hg)
    clear hg
    go_wp2_with fail
    go_ret
    exact ⟨false, rfl, ⟨fun h => absurd h (by decide), fun h => absurd h hne.out⟩, HG.out⟩
  subst h4
  go_enter Try.func26, Try.ntmps26
  go_wp2_with fail
  have hA1 := heap_alloc_new w (.cells #[.int .i64 k, .int .i64 n, .int .u64 u, .string s, .slice a4 keys.length c4, .slice a5 vs.length c5] 26)
  have hG1 := (Grew.refl w).alloc (.cells #[.int .i64 k, .int .i64 n, .int .u64 u, .string s, .slice a4 keys.length c4, .slice a5 vs.length c5] 26)
  have hS1 : (w.alloc (.cells #[.int .i64 k, .int .i64 n, .int .u64 u, .string s, .slice a4 keys.length c4, .slice a5 vs.length c5] 26)).heap.size = w.heap.size + 1 := World.size_alloc _ _
  generalize w.alloc (.cells #[.int .i64 k, .int .i64 n, .int .u64 u, .string s, .slice a4 keys.length c4, .slice a5 vs.length c5] 26) = w1 at *
  have hA2 := heap_alloc_new w1 (.cells #[.int .i64 k, .int .i64 n, .int .u64 u, .string s, .slice b4 keys.length d4, .slice b5 vs2.length d5] 26)
  have hG2 := (Grew.refl w1).alloc (.cells #[.int .i64 k, .int .i64 n, .int .u64 u, .string s, .slice b4 keys.length d4, .slice b5 vs2.length d5] 26)
  rw [hS1] at hA2
  generalize w1.alloc (.cells #[.int .i64 k, .int .i64 n, .int .u64 u, .string s, .slice b4 keys.length d4, .slice b5 vs2.length d5] 26) = w2 at *
  replace hA1 := hG2.heap hA1
  have HG := Lib.hid (hG1.trans hG2)
  clear hG1 hG2 hS1
  have hh := sequal_any keys keys _ _ _ (HKS.out.grew HG.out) (HKS2.out.grew HG.out)
  rw [decide_eq_true rfl] at hh
  refine hh.mono ?_
  clear hh
  rintro r w3 ⟨rfl, hg⟩
  replace hA1 := hg.heap hA1
  replace hA2 := hg.heap hA2
  replace HG := Lib.hid (HG.out.trans hg)
  have a0 := row_cellT hA1 5 _ rfl
  have b0 := row_cellT hA2 5 _ rfl
  clear hA1 hA2 hg
  go_wp2_with fail
  refine (equalfunc_any l l2 _ _ vs vs2 w3 (HR.out.1.grew HG.out) (HR.out.2.grew HG.out) (HR2.out.1.grew HG.out) (HR2.out.2.grew HG.out) hS.out).mono ?_
  rintro r w4 ⟨bb, rfl, hbb, hg⟩
  have HX := Lib.hid (And.intro hbb (HG.out.trans hg))
  clear hbb hg
  go_wp2_with fail
  go_ret
  refine ⟨bb, rfl, ⟨fun h => ?_, fun h => HX.out.1.2 (by injection h)⟩, HX.out.2⟩
  rw [HX.out.1.1 h]
end Go.Proofs.Ytfbeepkogcmlmaa

/-
  Normal forms: the small functions of the examples. Conditions: the arguments can be read.
-/
namespace Go.Proofs.Ytfbeepkogcmlmaa
open Go Go.ChangeShapes Go.WideShapes Go.ChangeAt Go.RowKit Go.Joins Go.Deep
set_option linter.unusedVariables false
set_option linter.unusedSimpArgs false

set_option maxRecDepth 100000 in
theorem num9_any (n : Int) (w : World) : Calls Try.prog 22 #[.int .i64 n] w fun r w' => r = .returned (.agg #[.int .i64 3, .int .i64 n, .int .u64 0, .string ⟨#[]⟩, .slice none 0 0, .slice none 0 0]) ∧ Grew w w' := by
  go_enter Try.func22, Try.ntmps22
  go_wp2_with fail
  have hb := heap_alloc_new w (.cells #[.int .i64 3, .int .i64 n, .int .u64 0, .string ⟨#[]⟩, .slice none 0 0, .slice none 0 0] 26)
  have hg := (Grew.refl w).alloc (.cells #[.int .i64 3, .int .i64 n, .int .u64 0, .string ⟨#[]⟩, .slice none 0 0, .slice none 0 0] 26)
  have z0 := row_cellT hb 0 _ rfl
  have z1 := row_cellT hb 1 _ rfl
  have z2 := row_cellT hb 2 _ rfl
  have z3 := row_cellT hb 3 _ rfl
  have z4 := row_cellT hb 4 _ rfl
  have z5 := row_cellT hb 5 _ rfl
  refine bodyPost_ret (v := .agg #[.int .i64 3, .int .i64 n, .int .u64 0, .string ⟨#[]⟩, .slice none 0 0, .slice none 0 0]) (by simp [results, Try.results22, go_sem, z0, z1, z2, z3, z4, z5]) rfl ?_
  exact ⟨rfl, hg⟩
set_option maxRecDepth 100000 in
theorem uns9_any (n : Int) (w : World) : Calls Try.prog 21 #[.int .u64 n] w fun r w' => r = .returned (.agg #[.int .i64 4, .int .i64 0, .int .u64 n, .string ⟨#[]⟩, .slice none 0 0, .slice none 0 0]) ∧ Grew w w' := by
  go_enter Try.func21, Try.ntmps21
  go_wp2_with fail
  have hb := heap_alloc_new w (.cells #[.int .i64 4, .int .i64 0, .int .u64 n, .string ⟨#[]⟩, .slice none 0 0, .slice none 0 0] 26)
  have hg := (Grew.refl w).alloc (.cells #[.int .i64 4, .int .i64 0, .int .u64 n, .string ⟨#[]⟩, .slice none 0 0, .slice none 0 0] 26)
  have z0 := row_cellT hb 0 _ rfl
  have z1 := row_cellT hb 1 _ rfl
  have z2 := row_cellT hb 2 _ rfl
  have z3 := row_cellT hb 3 _ rfl
  have z4 := row_cellT hb 4 _ rfl
  have z5 := row_cellT hb 5 _ rfl
  refine bodyPost_ret (v := .agg #[.int .i64 4, .int .i64 0, .int .u64 n, .string ⟨#[]⟩, .slice none 0 0, .slice none 0 0]) (by simp [results, Try.results21, go_sem, z0, z1, z2, z3, z4, z5]) rfl ?_
  exact ⟨rfl, hg⟩
set_option maxRecDepth 100000 in
theorem text9_any (s : ByteArray) (w : World) : Calls Try.prog 34 #[.string s] w fun r w' => r = .returned (.agg #[.int .i64 6, .int .i64 0, .int .u64 0, .string s, .slice none 0 0, .slice none 0 0]) ∧ Grew w w' := by
  go_enter Try.func34, Try.ntmps34
  go_wp2_with fail
  have hb := heap_alloc_new w (.cells #[.int .i64 6, .int .i64 0, .int .u64 0, .string s, .slice none 0 0, .slice none 0 0] 26)
  have hg := (Grew.refl w).alloc (.cells #[.int .i64 6, .int .i64 0, .int .u64 0, .string s, .slice none 0 0, .slice none 0 0] 26)
  have z0 := row_cellT hb 0 _ rfl
  have z1 := row_cellT hb 1 _ rfl
  have z2 := row_cellT hb 2 _ rfl
  have z3 := row_cellT hb 3 _ rfl
  have z4 := row_cellT hb 4 _ rfl
  have z5 := row_cellT hb 5 _ rfl
  refine bodyPost_ret (v := .agg #[.int .i64 6, .int .i64 0, .int .u64 0, .string s, .slice none 0 0, .slice none 0 0]) (by simp [results, Try.results34, go_sem, z0, z1, z2, z3, z4, z5]) rfl ?_
  exact ⟨rfl, hg⟩
set_option maxRecDepth 100000 in
theorem list9_any (k : Int) (a5 : Option Addr) (n5 c5 : Nat) (w : World) : Calls Try.prog 23 #[.int .i64 k, .slice a5 n5 c5] w fun r w' => r = .returned (.agg #[.int .i64 k, .int .i64 0, .int .u64 0, .string ⟨#[]⟩, .slice none 0 0, .slice a5 n5 c5]) ∧ Grew w w' := by
  go_enter Try.func23, Try.ntmps23
  go_wp2_with fail
  have hb := heap_alloc_new w (.cells #[.int .i64 k, .int .i64 0, .int .u64 0, .string ⟨#[]⟩, .slice none 0 0, .slice a5 n5 c5] 26)
  have hg := (Grew.refl w).alloc (.cells #[.int .i64 k, .int .i64 0, .int .u64 0, .string ⟨#[]⟩, .slice none 0 0, .slice a5 n5 c5] 26)
  have z0 := row_cellT hb 0 _ rfl
  have z1 := row_cellT hb 1 _ rfl
  have z2 := row_cellT hb 2 _ rfl
  have z3 := row_cellT hb 3 _ rfl
  have z4 := row_cellT hb 4 _ rfl
  have z5 := row_cellT hb 5 _ rfl
  refine bodyPost_ret (v := .agg #[.int .i64 k, .int .i64 0, .int .u64 0, .string ⟨#[]⟩, .slice none 0 0, .slice a5 n5 c5]) (by simp [results, Try.results23, go_sem, z0, z1, z2, z3, z4, z5]) rfl ?_
  exact ⟨rfl, hg⟩
end Go.Proofs.Ytfbeepkogcmlmaa

/-
  Normal forms: Alike, and the law's is. Conditions: both nodes can be read.
-/
namespace Go.Proofs.Ytfbeepkogcmlmaa
open Go Go.ChangeShapes Go.WideShapes Go.ChangeAt Go.RowKit Go.Joins Go.Deep
set_option linter.unusedVariables false
set_option linter.unusedSimpArgs false

theorem of_sum {w w' : World} {t : Tr} {r : Ending} (h : OfOut w t r w') : Grew w w' ∧ ∃ (e k n u : Int) (s : ByteArray) (a4 : Option Addr) (n4 c4 : Nat) (a5 : Option Addr) (n5 c5 : Nat), r = .returned (.tuple #[.agg #[.int .i64 k, .int .i64 n, .int .u64 u, .string s, .slice a4 n4 c4, .slice a5 n5 c5], .int .i64 e]) ∧ e = checkE t ∧ (e = 0 → NodeAt w' (norT t) (.agg #[.int .i64 k, .int .i64 n, .int .u64 u, .string s, .slice a4 n4 c4, .slice a5 n5 c5])) := by
  obtain ⟨hg, ⟨h0, rfl⟩ | ⟨h0, v, S, rfl, ho, hf⟩⟩ := h
  · exact ⟨hg, checkE t, 0, 0, 0, ⟨#[]⟩, none, 0, 0, none, 0, 0, rfl, rfl, fun h => absurd h h0⟩
  · obtain ⟨k, n, u, s, a4, n4, c4, a5, n5, c5, rfl⟩ := ho.node6
    exact ⟨hg, 0, k, n, u, s, a4, n4, c4, a5, n5, c5, rfl, h0.symm, fun _ => ho.node⟩
def alikeP (a b : Tr) : Prop := checkE a = 0 ∧ checkE b = 0 ∧ norT a = norT b
set_option maxRecDepth 100000 in
set_option maxHeartbeats 4000000 in
theorem alike_any (t1 t2 : Tr) (v1 v2 : Value) (w : World) (hn : NodeAt w t1 v1) (hn2 : NodeAt w t2 v2) (hz1 : t1.size ≤ 1099511627776) (hz2 : t2.size ≤ 1099511627776) : Calls Try.prog 15 #[v1, v2] w fun r w' => ∃ b, r = .returned (.bool b) ∧ (b = true ↔ alikeP t1 t2) ∧ Grew w w' := by
  have HC := Lib.hid (And.intro hn hn2)
  obtain ⟨ak, an, au, as_, aa4, an4, ac4, aa5, an5, ac5, rfl⟩ := hn.node6
  obtain ⟨bk, bn, bu, bs, ba4, bn4, bc4, ba5, bn5, bc5, rfl⟩ := hn2.node6
  clear hn hn2
  go_enter Try.func15, Try.ntmps15
  go_wp2_with fail
  obtain ⟨N, hN⟩ : ∃ N, w.heap.size = N := ⟨_, rfl⟩
  have hb1 := heap_alloc_new w (.cells #[.int .i64 ak, .int .i64 an, .int .u64 au, .string as_, .slice aa4 an4 ac4, .slice aa5 an5 ac5] 26)
  have hgw1 := (Grew.refl w).alloc (.cells #[.int .i64 ak, .int .i64 an, .int .u64 au, .string as_, .slice aa4 an4 ac4, .slice aa5 an5 ac5] 26)
  have hsw1 : (w.alloc (.cells #[.int .i64 ak, .int .i64 an, .int .u64 au, .string as_, .slice aa4 an4 ac4, .slice aa5 an5 ac5] 26)).heap.size = w.heap.size + 1 := World.size_alloc _ _
  generalize (w.alloc (.cells #[.int .i64 ak, .int .i64 an, .int .u64 au, .string as_, .slice aa4 an4 ac4, .slice aa5 an5 ac5] 26)) = w1 at *
  have hb2 := heap_alloc_new w1 (.cells #[.int .i64 bk, .int .i64 bn, .int .u64 bu, .string bs, .slice ba4 bn4 bc4, .slice ba5 bn5 bc5] 26)
  have hgw2 := (Grew.refl w1).alloc (.cells #[.int .i64 bk, .int .i64 bn, .int .u64 bu, .string bs, .slice ba4 bn4 bc4, .slice ba5 bn5 bc5] 26)
  have hsw2 : (w1.alloc (.cells #[.int .i64 bk, .int .i64 bn, .int .u64 bu, .string bs, .slice ba4 bn4 bc4, .slice ba5 bn5 bc5] 26)).heap.size = w1.heap.size + 1 := World.size_alloc _ _
  generalize (w1.alloc (.cells #[.int .i64 bk, .int .i64 bn, .int .u64 bu, .string bs, .slice ba4 bn4 bc4, .slice ba5 bn5 bc5] 26)) = w2 at *
  rw [hsw1] at hb2
  skip
  replace hb1 := hgw2.heap hb1
  have HG := Lib.hid (hgw1.trans hgw2)
  have HB1 := Lib.hid hb1
  have HB2 := Lib.hid hb2
  clear hb1 hb2 hgw1 hgw2 hsw1 hsw2 hN
  refine (Of_any t1 _ w2 (HC.out.1.grew HG.out) hz1).mono ?_
  intro r w3 hh
  obtain ⟨hg3, e1, xk, xn, xu, xs, xa4, xn4, xc4, xa5, xn5, xc5, rfl, he1, hx⟩ := of_sum hh
  have HX := Lib.hid (And.intro he1 hx)
  have HG3 := Lib.hid (HG.out.trans hg3)
  have HB3 := Lib.hid (hg3.heap HB2.out)
  clear hh hg3 he1 hx HG
  have d0 := row_cellT HB3.out 0 _ rfl
  have d1 := row_cellT HB3.out 1 _ rfl
  have d2 := row_cellT HB3.out 2 _ rfl
  have d3 := row_cellT HB3.out 3 _ rfl
  have d4 := row_cellT HB3.out 4 _ rfl
  have d5 := row_cellT HB3.out 5 _ rfl
  go_upto_region 2 with fail
  have hb4 := heap_alloc_new w3 (.cells #[.int .i64 xk, .int .i64 xn, .int .u64 xu, .string xs, .slice xa4 xn4 xc4, .slice xa5 xn5 xc5] 26)
  have hgw4 := (Grew.refl w3).alloc (.cells #[.int .i64 xk, .int .i64 xn, .int .u64 xu, .string xs, .slice xa4 xn4 xc4, .slice xa5 xn5 xc5] 26)
  have hsw4 : (w3.alloc (.cells #[.int .i64 xk, .int .i64 xn, .int .u64 xu, .string xs, .slice xa4 xn4 xc4, .slice xa5 xn5 xc5] 26)).heap.size = w3.heap.size + 1 := World.size_alloc _ _
  generalize (w3.alloc (.cells #[.int .i64 xk, .int .i64 xn, .int .u64 xu, .string xs, .slice xa4 xn4 xc4, .slice xa5 xn5 xc5] 26)) = w4 at *
  have HB4 := Lib.hid hb4
  have HG4 := Lib.hid hgw4
  have HB3' := Lib.hid (hgw4.heap HB3.out)
  clear hb4 hgw4 hsw4 d0 d1 d2 d3 d4 d5
  have d0 := row_cellT HB3'.out 0 _ rfl
  have d1 := row_cellT HB3'.out 1 _ rfl
  have d2 := row_cellT HB3'.out 2 _ rfl
  have d3 := row_cellT HB3'.out 3 _ rfl
  have d4 := row_cellT HB3'.out 4 _ rfl
  have d5 := row_cellT HB3'.out 5 _ rfl
  go_wp2_with fail
  refine (Of_any t2 _ w4 (HC.out.2.grew (HG3.out.trans HG4.out)) hz2).mono ?_
  intro r w5 hh
  obtain ⟨hg5, e2, yk, yn, yu, ys, ya4, yn4, yc4, ya5, yn5, yc5, rfl, he2, hy⟩ := of_sum hh
  have HY := Lib.hid (And.intro he2 hy)
  have HG5 := Lib.hid hg5
  have HB5 := Lib.hid (hg5.heap HB4.out)
  clear hh hg5 he2 hy d0 d1 d2 d3 d4 d5
  go_upto_region 3 with fail
  have hb6 := heap_alloc_new w5 (.cells #[.int .i64 yk, .int .i64 yn, .int .u64 yu, .string ys, .slice ya4 yn4 yc4, .slice ya5 yn5 yc5] 26)
  have hgw6 := (Grew.refl w5).alloc (.cells #[.int .i64 yk, .int .i64 yn, .int .u64 yu, .string ys, .slice ya4 yn4 yc4, .slice ya5 yn5 yc5] 26)
  have hsw6 : (w5.alloc (.cells #[.int .i64 yk, .int .i64 yn, .int .u64 yu, .string ys, .slice ya4 yn4 yc4, .slice ya5 yn5 yc5] 26)).heap.size = w5.heap.size + 1 := World.size_alloc _ _
  generalize (w5.alloc (.cells #[.int .i64 yk, .int .i64 yn, .int .u64 yu, .string ys, .slice ya4 yn4 yc4, .slice ya5 yn5 yc5] 26)) = w6 at *
  have HG6 := Lib.hid hgw6
  have HB6 := Lib.hid (hgw6.heap HB5.out)
  have f0 := row_cellT hb6 0 _ rfl
  have f1 := row_cellT hb6 1 _ rfl
  have f2 := row_cellT hb6 2 _ rfl
  have f3 := row_cellT hb6 3 _ rfl
  have f4 := row_cellT hb6 4 _ rfl
  have f5 := row_cellT hb6 5 _ rfl
  have d0 := row_cellT HB6.out 0 _ rfl
  have d1 := row_cellT HB6.out 1 _ rfl
  have d2 := row_cellT HB6.out 2 _ rfl
  have d3 := row_cellT HB6.out 3 _ rfl
  have d4 := row_cellT HB6.out 4 _ rfl
  have d5 := row_cellT HB6.out 5 _ rfl
  clear hb6 hgw6 hsw6
  have HGA : Hid (Grew w w6) := ((HG3.out.trans HG4.out).trans HG5.out).trans HG6.out
  by_cases h1 : e1 = 0
  rotate_left
  · have hb : (e1 == 0) = false := by simpa using h1
    have H1 := Lib.hid h1
    clear h1
    go_wp2_with fail
    go_ret
    exact ⟨false, rfl, ⟨fun h => absurd h (by decide), fun h => absurd (HX.out.1.trans h.1) H1.out⟩, HGA.out⟩
  by_cases h2 : e2 = 0
  rotate_left
  · have hb : (e2 == 0) = false := by simpa using h2
    have hb1 : (e1 == 0) = true := by simpa using h1
    have H2 := Lib.hid h2
    clear h1 h2
    go_wp2_with fail
    go_ret
    exact ⟨false, rfl, ⟨fun h => absurd h (by decide), fun h => absurd (HY.out.1.trans h.2.1) H2.out⟩, HGA.out⟩
  have HNX := Lib.hid ((HX.out.2 h1).grew ((HG4.out.trans HG5.out).trans HG6.out))
  have HNY := Lib.hid ((HY.out.2 h2).grew HG6.out)
  have HE : Hid (checkE t1 = 0 ∧ checkE t2 = 0) := ⟨by rw [← HX.out.1]; exact h1, by rw [← HY.out.1]; exact h2⟩
  subst h1
  subst h2
  go_wp2_with fail
  refine (same_any _ _ (Nat.le_refl _) _ _ _ _ HNX.out HNY.out).mono ?_
  rintro r w7 ⟨bb, rfl, hbb, hg⟩
  have HF := Lib.hid (And.intro hbb (HGA.out.trans hg))
  clear hbb hg
  go_wp2_with fail
  go_ret
  exact ⟨bb, rfl, ⟨fun h => ⟨HE.out.1, HE.out.2, HF.out.1.1 h⟩, fun h => HF.out.1.2 h.2.2⟩, HF.out.2⟩
set_option maxRecDepth 100000 in
set_option maxHeartbeats 4000000 in
theorem is9_any (t1 t2 : Tr) (v1 v2 : Value) (w : World) (hn : NodeAt w t1 v1) (hn2 : NodeAt w t2 v2) (hz1 : t1.size ≤ 1099511627776) : Calls Try.prog 33 #[v1, v2] w fun r w' => ∃ b, r = .returned (.bool b) ∧ (b = true ↔ checkE t1 = 0 ∧ norT t1 = t2) ∧ Grew w w' := by
  have HC := Lib.hid (And.intro hn hn2)
  obtain ⟨ak, an, au, as_, aa4, an4, ac4, aa5, an5, ac5, rfl⟩ := hn.node6
  obtain ⟨bk, bn, bu, bs, ba4, bn4, bc4, ba5, bn5, bc5, rfl⟩ := hn2.node6
  clear hn hn2
  go_enter Try.func33, Try.ntmps33
  go_wp2_with fail
  have hb1 := heap_alloc_new w (.cells #[.int .i64 ak, .int .i64 an, .int .u64 au, .string as_, .slice aa4 an4 ac4, .slice aa5 an5 ac5] 26)
  have hgw1 := (Grew.refl w).alloc (.cells #[.int .i64 ak, .int .i64 an, .int .u64 au, .string as_, .slice aa4 an4 ac4, .slice aa5 an5 ac5] 26)
  have hsw1 : (w.alloc (.cells #[.int .i64 ak, .int .i64 an, .int .u64 au, .string as_, .slice aa4 an4 ac4, .slice aa5 an5 ac5] 26)).heap.size = w.heap.size + 1 := World.size_alloc _ _
  generalize (w.alloc (.cells #[.int .i64 ak, .int .i64 an, .int .u64 au, .string as_, .slice aa4 an4 ac4, .slice aa5 an5 ac5] 26)) = w1 at *
  have hb2 := heap_alloc_new w1 (.cells #[.int .i64 bk, .int .i64 bn, .int .u64 bu, .string bs, .slice ba4 bn4 bc4, .slice ba5 bn5 bc5] 26)
  have hgw2 := (Grew.refl w1).alloc (.cells #[.int .i64 bk, .int .i64 bn, .int .u64 bu, .string bs, .slice ba4 bn4 bc4, .slice ba5 bn5 bc5] 26)
  have hsw2 : (w1.alloc (.cells #[.int .i64 bk, .int .i64 bn, .int .u64 bu, .string bs, .slice ba4 bn4 bc4, .slice ba5 bn5 bc5] 26)).heap.size = w1.heap.size + 1 := World.size_alloc _ _
  generalize (w1.alloc (.cells #[.int .i64 bk, .int .i64 bn, .int .u64 bu, .string bs, .slice ba4 bn4 bc4, .slice ba5 bn5 bc5] 26)) = w2 at *
  rw [hsw1] at hb2
  have HG := Lib.hid (hgw1.trans hgw2)
  have HB2 := Lib.hid hb2
  clear hb1 hb2 hgw1 hgw2 hsw1 hsw2
  refine (Of_any t1 _ w2 (HC.out.1.grew HG.out) hz1).mono ?_
  intro r w3 hh
  obtain ⟨hg3, e1, xk, xn, xu, xs, xa4, xn4, xc4, xa5, xn5, xc5, rfl, he1, hx⟩ := of_sum hh
  have HX := Lib.hid (And.intro he1 hx)
  have HG3 := Lib.hid (HG.out.trans hg3)
  have HB3 := Lib.hid (hg3.heap HB2.out)
  have HC3 := Lib.hid (HC.out.2.grew HG3.out)
  clear hh hg3 he1 hx HG
  go_upto_region 2 with fail
  have hb4 := heap_alloc_new w3 (.cells #[.int .i64 xk, .int .i64 xn, .int .u64 xu, .string xs, .slice xa4 xn4 xc4, .slice xa5 xn5 xc5] 26)
  have hgw4 := (Grew.refl w3).alloc (.cells #[.int .i64 xk, .int .i64 xn, .int .u64 xu, .string xs, .slice xa4 xn4 xc4, .slice xa5 xn5 xc5] 26)
  have hsw4 : (w3.alloc (.cells #[.int .i64 xk, .int .i64 xn, .int .u64 xu, .string xs, .slice xa4 xn4 xc4, .slice xa5 xn5 xc5] 26)).heap.size = w3.heap.size + 1 := World.size_alloc _ _
  generalize (w3.alloc (.cells #[.int .i64 xk, .int .i64 xn, .int .u64 xu, .string xs, .slice xa4 xn4 xc4, .slice xa5 xn5 xc5] 26)) = w4 at *
  have HG4 := Lib.hid hgw4
  have HB4 := Lib.hid (hgw4.heap HB3.out)
  have f0 := row_cellT hb4 0 _ rfl
  have f1 := row_cellT hb4 1 _ rfl
  have f2 := row_cellT hb4 2 _ rfl
  have f3 := row_cellT hb4 3 _ rfl
  have f4 := row_cellT hb4 4 _ rfl
  have f5 := row_cellT hb4 5 _ rfl
  have d0 := row_cellT HB4.out 0 _ rfl
  have d1 := row_cellT HB4.out 1 _ rfl
  have d2 := row_cellT HB4.out 2 _ rfl
  have d3 := row_cellT HB4.out 3 _ rfl
  have d4 := row_cellT HB4.out 4 _ rfl
  have d5 := row_cellT HB4.out 5 _ rfl
  clear hb4 hgw4 hsw4
  have HGA := Lib.hid (HG3.out.trans HG4.out)
  by_cases h1 : e1 = 0
  rotate_left
  · have hb : (e1 == 0) = false := by simpa using h1
    have H1 := Lib.hid h1
    clear h1
    go_wp2_with fail
    go_ret
    exact ⟨false, rfl, ⟨fun h => absurd h (by decide), fun h => absurd (HX.out.1.trans h.1) H1.out⟩, HGA.out⟩
  have HNX := Lib.hid ((HX.out.2 h1).grew HG4.out)
  have HE : Hid (checkE t1 = 0) := by rw [← HX.out.1]; exact h1
  subst h1
  go_wp2_with fail
  refine (eqnode_any _ _ (Nat.le_refl _) _ _ _ _ HNX.out (HC3.out.grew HG4.out)).mono ?_
  rintro r w7 ⟨bb, rfl, hbb, hg⟩
  have HF := Lib.hid (And.intro hbb (HGA.out.trans hg))
  clear hbb hg
  go_wp2_with fail
  go_ret
  exact ⟨bb, rfl, ⟨fun h => ⟨HE.out, HF.out.1.1 h⟩, fun h => HF.out.1.2 h.2⟩, HF.out.2⟩
end Go.Proofs.Ytfbeepkogcmlmaa
