/-
  Plain lemma, no program: as in Region; but the last operation, which waits for all others, may turn the world as it likes. Conditions: the dependency table passes a closed check.
-/
import Derived.Test.YtaoflhddcbmacaaRegion
namespace Go.Proofs.Ytaoflhddcbmacaa
set_option linter.unusedSimpArgs false
set_option linter.unusedVariables false
open Go Go.RowKit

section
variable {P : Program} {ops : Array Oper}

/-- Each operation but the last has one that waits for it. -/
def sinkOK (ops : Array Oper) : Bool :=
  (List.range (ops.size - 1)).all fun j => (List.range ops.size).any fun k => decide (j < k) && match ops[k]? with | some o => o.after.any fun e => Region.binds .any e && e.on == j | none => false

theorem wpAny_of_factsL {R : World → World → Prop} {D : Array (List Nat)} {Φ : Nat → Value → World → Prop} {a0 : Act} {w0 : World} {Q : Exit → Act → World → Prop}
    (hRt : ∀ {a b c : World}, R a b → R b c → R a c) (hchk : factsOK ops D = true) (hst : ∀ j v w w', R w w' → Φ j v w → Φ j v w') (hrr : ∀ w, R w w)
    (hop : ∀ i o, i + 1 < ops.size → ops[i]? = some o → opWord P ops R D Φ a0 w0 i o) (hpos : 0 < ops.size) (hsink : sinkOK ops = true)
    (hfin : ∀ o, ops[ops.size - 1]? = some o → ∀ y w, R w0 w → (∀ j, j + 1 < ops.size → Φ j (y j) w) → ∀ a, a = fillL y (canonL ops D (ops.size - 1)) a0 →
      if Region.wanted o (yielded ops a.tmps) then o.wp P a w (fun a' w' => Q .normal a' w') (fun _ _ _ => False) else Q .normal (a.put o.dst undef) w) :
    ∀ (fuel : Nat) (listed : Array Bool) (a : Act) (w : World) (y : Nat → Value), ((List.range ops.size).filter fun j => !listed.getD j true).length ≤ fuel →
      InvF ops R D Φ a0 w0 listed a w y → (∀ j o, ops[j]? = some o → listed.getD j false = true → ∀ e ∈ o.after, Region.binds .any e = true → listed.getD e.on false = true) → listed.getD (ops.size - 1) true = false → wpAny P .any ops Q fuel listed a w := by
  simp only [factsOK, Bool.and_eq_true, List.all_eq_true, List.mem_range] at hchk
  obtain ⟨hkeys, hrows⟩ := hchk
  -- nothing ready: all has been listed
  have hall : ∀ (listed : Array Bool), listed.size = ops.size → Region.ready .any ops listed = [] → ∀ j, j < ops.size → listed.getD j false = true := by
    intro listed hs hnil j
    induction j using Nat.strongRecOn with
    | ind j ih =>
      intro hj
      cases hl : listed.getD j false with
      | true => rfl
      | false =>
        exfalso
        have hmem : j ∈ Region.ready .any ops listed := by
          rw [mem_ready]
          refine ⟨by rw [listed_cases (by omega)]; exact hl, ops[j], Array.getElem?_eq_getElem hj, fun e he hb => ?_⟩
          have hrow := hrows j hj
          rw [Array.getElem?_eq_getElem hj] at hrow
          simp only [Bool.and_eq_true, List.all_eq_true, decide_eq_true_eq] at hrow
          have hlt := hrow.1 e.on (List.mem_map.2 ⟨e, List.mem_filter.2 ⟨by simpa using he, hb⟩, rfl⟩)
          exact ih e.on hlt (by omega)
        rw [hnil] at hmem
        cases hmem
  have hdone : ∀ (listed : Array Bool) (a : Act) (w : World) (y : Nat → Value), InvF ops R D Φ a0 w0 listed a w y → listed.getD (ops.size - 1) true = false → Region.ready .any ops listed = [] → Q .normal a w := by
    intro listed a w y hI hl hnil
    have := hall listed hI.size hnil (ops.size - 1) (by omega)
    rw [← listed_cases (by rw [hI.size]; omega), hl] at this
    cases this
  intro fuel
  induction fuel with
  | zero =>
    intro listed a w y hlen hI hE hL
    have hnil : Region.ready .any ops listed = [] := by
      have h0 : ((List.range ops.size).filter fun j => !listed.getD j true) = [] := List.length_eq_zero_iff.1 (by omega)
      refine List.eq_nil_iff_forall_not_mem.2 fun j hj => ?_
      have hj' := mem_ready.1 hj
      have : j ∈ ((List.range ops.size).filter fun j => !listed.getD j true) := by
        obtain ⟨hl, o, ho, _⟩ := hj'
        exact List.mem_filter.2 ⟨List.mem_range.2 (Array.getElem?_eq_some_iff.1 ho).1, by simp [hl]⟩
      rw [h0] at this
      cases this
    exact ⟨hnil, hdone listed a w y hI hL hnil⟩
  | succ fuel ih =>
    intro listed a w y hlen hI hE hL
    refine ⟨hdone listed a w y hI hL, fun i hi => ?_⟩
    obtain ⟨hun, o, ho, hedges⟩ := mem_ready.1 hi
    have hilt : i < ops.size := (Array.getElem?_eq_some_iff.1 ho).1
    have hunf : listed.getD i false = false := by rw [← listed_cases (by rw [hI.size]; exact hilt)]; exact hun
    have hrow := hrows i hilt
    rw [ho] at hrow
    simp only [Bool.and_eq_true, List.all_eq_true, decide_eq_true_eq, List.any_eq_true, Bool.or_eq_true, beq_iff_eq, List.contains_iff_mem] at hrow
    -- what i waits for has been listed
    have hD : ∀ k ∈ D.getD i [], listed.getD k false = true := by
      intro k hk
      obtain ⟨e, he, hek⟩ := hrow.2 k hk
      obtain ⟨ed, hed, rfl⟩ := List.mem_map.1 he
      obtain ⟨hed1, hed2⟩ := List.mem_filter.1 hed
      have hl := hedges ed (by simpa using hed1) hed2
      rcases hek with rfl | hek
      · exact hl
      · exact hI.closed _ hl k hek
    have hcan : fillL y (canonL ops D i) a0 = a := by
      rw [hI.act]
      refine fillL_filter y _ _ a0 hkeys ?_
      rintro ⟨d, j⟩ hq hp
      simp only [Bool.not_eq_false', Bool.or_eq_true, beq_iff_eq] at hp
      have hdst := mem_pairsOf.1 hq
      refine hI.open_ j d ?_ hdst
      rcases hp with rfl | hw
      · exact hun
      · have hjlt : j < listed.size := by
          rw [hI.size]
          rcases Nat.lt_or_ge j ops.size with h' | h'
          · exact h'
          · rw [Array.getElem?_eq_none h'] at hdst; cases hdst
        rw [listed_cases hjlt]
        cases hl : listed.getD j false with
        | false => rfl
        | true =>
          have := hI.closed j hl i (by simpa [waits] using hw)
          rw [hunf] at this
          cases this
    by_cases hlast : i = ops.size - 1
    · -- the last: all others have been listed
      subst hlast
      have hothers : ∀ d j, ops.size - 1 - j = d → j + 1 < ops.size → listed.getD j false = true := by
        intro d
        induction d using Nat.strongRecOn with
        | ind d ihd =>
          intro j hd hj
          have h1 := List.all_eq_true.1 hsink j (List.mem_range.2 (by omega))
          obtain ⟨k, hk, hk2⟩ := List.any_eq_true.1 h1
          simp only [Bool.and_eq_true, decide_eq_true_eq] at hk2
          have hkn := List.mem_range.1 hk
          obtain ⟨hjk, hwt⟩ := hk2
          cases hok : ops[k]? with
          | none => simp [hok] at hwt
          | some ok =>
            simp only [hok, Array.any_eq_true'] at hwt
            obtain ⟨e, he, hb⟩ := hwt
            simp only [Bool.and_eq_true, beq_iff_eq] at hb
            rw [← hb.2]
            by_cases hkl : k = ops.size - 1
            · subst hkl
              rw [ho] at hok; cases hok
              exact hedges e he hb.1
            · exact hE k ok hok (ihd (ops.size - 1 - k) (by omega) k rfl (by omega)) e he hb.1
      have hfl := hfin o ho y w hI.grown (fun j hj => hI.facts j (hothers _ j rfl hj)) a hcan.symm
      have hend : ∀ v w', Q .normal v w' → wpAny P .any ops Q fuel (listed.setIfInBounds (ops.size - 1) true) v w' := by
        intro v w' hq
        have hnil : Region.ready .any ops (listed.setIfInBounds (ops.size - 1) true) = [] := by
          refine List.eq_nil_iff_forall_not_mem.2 fun j hj => ?_
          obtain ⟨hl, o', ho', _⟩ := mem_ready.1 hj
          have hjlt : j < ops.size := (Array.getElem?_eq_some_iff.1 ho').1
          by_cases hjl : ops.size - 1 = j
          · subst hjl
            have h2 : ops.size - 1 < listed.size := by rw [hI.size]; exact hilt
            simp [h2] at hl
          · rw [getD_set_ne true hjl, listed_cases (by rw [hI.size]; exact hjlt), hothers _ j rfl (by omega)] at hl
            cases hl
        cases fuel with
        | zero => exact ⟨hnil, hq⟩
        | succ f => exact ⟨fun _ => hq, fun j hj => by rw [hnil] at hj; cases hj⟩
      unfold wpOp
      simp only [ho]
      split at hfl
      · rename_i hwa
        rw [if_pos hwa]
        exact .inl (wp_exit (Oper.wp_mono (fun a' w' hq => hend a' w' hq) hfl))
      · rename_i hwa
        rw [if_neg hwa]
        exact hend _ _ hfl
    have hw := hop i o (by omega) ho y w hI.grown (fun j hj => hI.facts j (hD j hj)) (fun a' w' => ∃ v, a' = a.put o.dst v ∧ R w w' ∧ Φ i v w')
    rw [hcan] at hw
    have hlen' : ((List.range ops.size).filter fun j => !(listed.setIfInBounds i true).getD j true).length ≤ fuel := by
      have : ((List.range ops.size).filter fun j => !(listed.setIfInBounds i true).getD j true).length < ((List.range ops.size).filter fun j => !listed.getD j true).length := by
        refine filter_lt _ i (fun j hj => ?_) (List.mem_range.2 hilt) (by rw [hun]; rfl) ?_
        · by_cases hij : i = j
          · subst hij
            have h2 : i < listed.size := by rw [hI.size]; exact hilt
            simp [h2] at hj
          · rw [getD_set_ne true hij] at hj; exact hj
        · have h2 : i < listed.size := by rw [hI.size]; exact hilt
          simp [h2]
      omega
    have hnext : ∀ v w', R w w' → Φ i v w' → wpAny P .any ops Q fuel (listed.setIfInBounds i true) (a.put o.dst v) w' := by
      intro v w' hr hφ
      have h2 : i < listed.size := by rw [hI.size]; exact hilt
      refine ih _ _ _ (fun k => if k = i then v else y k) hlen' ⟨by simp [hI.size], ?_, hRt hI.grown hr, ?_, ?_, ?_⟩ ?_ ?_
      · cases hd : o.dst with
        | none =>
          rw [hI.act]
          show fillL y (pairsOf ops) a0 = _
          refine fillL_congr _ _ _ _ fun p hp => ?_
          have := mem_pairsOf.1 (show (p.1, p.2) ∈ pairsOf ops from hp)
          have hne : p.2 ≠ i := fun he => by rw [he, ho] at this; simp [hd] at this
          simp [hne]
        | some d =>
          rw [hI.act, fillL_set y i v _ a0 d hkeys (mem_pairsOf.2 (by simp [ho, hd]))]
      · intro j hj
        by_cases hji : j = i
        · subst hji; simpa using hφ
        · simp only [hji, if_false]
          rw [getD_set_ne false (Ne.symm hji)] at hj
          exact hst j _ _ _ hr (hI.facts j hj)
      · intro j d hj hdst
        have hji : j ≠ i := fun he => by subst he; simp [h2] at hj
        simp only [hji, if_false]
        rw [getD_set_ne true (Ne.symm hji)] at hj
        exact hI.open_ j d hj hdst
      · intro j hj k hk
        by_cases hji : j = i
        · subst hji; exact getD_set_true (hD k hk)
        · rw [getD_set_ne false (Ne.symm hji)] at hj
          exact getD_set_true (hI.closed j hj k hk)
      · intro j oj hoj hj e he hb
        by_cases hji : j = i
        · subst hji
          rw [ho] at hoj; cases hoj
          exact getD_set_true (hedges e he hb)
        · rw [getD_set_ne false (Ne.symm hji)] at hj
          exact getD_set_true (hE j oj hoj hj e he hb)
      · rw [getD_set_ne true hlast]; exact hL
    unfold wpOp
    simp only [ho]
    have hw2 := hw (fun v w' hr hφ => ⟨v, rfl, hr, hφ⟩)
    split at hw2
    · rename_i hwa
      rw [if_pos hwa]
      refine .inl ?_
      have h3 : o.wp P a w (wpAny P .any ops Q fuel (listed.setIfInBounds i true)) (fun _ _ _ => False) :=
        Oper.wp_mono (fun a' w' ⟨v, he, hr, hφ⟩ => by subst he; exact hnext v w' hr hφ) hw2
      exact wp_exit h3
    · rename_i hwa
      rw [if_neg hwa]
      obtain ⟨v, he, hr, hφ⟩ := hw2
      rw [he]
      exact hnext v w hr hφ
where
  wp_exit {o : Oper} {a : Act} {w : World} {K : Act → World → Prop} {Q : Exit → Act → World → Prop} (h : o.wp P a w K (fun _ _ _ => False)) : o.wp P a w K Q := by
    unfold Oper.wp at *
    generalize (execOp a.eval o).run P w = r at *
    cases r with
    | ok n w' =>
      cases n <;> simp only [Oper.upon] at h ⊢
      case enter f args =>
        refine Calls.mono h fun e w'' he => ?_
        cases e with
        | returned v => exact he
        | panicked c => exact he.elim
        | outgrown => obtain ⟨_, _, hq⟩ := he; exact hq.elim
      all_goals exact h
    | halt x w' => cases x <;> simp only [Oper.upon] at h


def lastOf {α : Type} [Inhabited α] : List α → α
  | [] => default
  | [x] => x
  | _ :: y :: r => lastOf (y :: r)
theorem lastOf_eq {α : Type} [Inhabited α] : ∀ l : List α, lastOf l = l.getLast?.getD default
  | [] => rfl
  | [x] => rfl
  | _ :: y :: r => by rw [lastOf, lastOf_eq (y :: r), List.getLast?_cons_cons]

/-- **A region that draws its order, its last operation free; the tables written out.** -/
theorem wp_region_last {id : Nat} {a0 : Act} {w0 : World} {Q : Exit → Act → World → Prop} (R : World → World → Prop) (D : List (List Nat)) (C : List (List (Nat × Nat))) (Φ : List (Value → World → Prop)) (hm : P.follows .mixedOrders = true)
    (hRt : ∀ {a b c : World}, R a b → R b c → R a c) (hrr : ∀ w, R w w) (hd : R w0 w0.drew) (hchk : (tablesOK ops D C (pairsOf ops) && sinkOK ops && decide (0 < ops.size)) = true) (hst : stL R Φ)
    (hlen : Φ.length + 1 = ops.size)
    (hop : allW P ops R Φ a0 w0 0 ops.toList.dropLast D C)
    (hfin : ∀ y w, R w0 w → factsH y w 0 Φ → ∀ K : Act → World → Prop, (∀ a' w', Q .normal a' w' → K a' w') →
      if Region.wanted (lastOf ops.toList) (yielded ops (fillL y (lastOf C) a0).tmps) then (lastOf ops.toList).wp P (fillL y (lastOf C) a0) w K (fun _ _ _ => False) else K ((fillL y (lastOf C) a0).put (lastOf ops.toList).dst undef) w)
    (hCl : C.length = ops.size) : (Code.region id ops true).wp P Q a0 w0 := by
  simp only [Bool.and_eq_true, decide_eq_true_eq] at hchk
  obtain ⟨⟨hchk, hsink⟩, hpos⟩ := hchk
  simp only [tablesOK, Bool.and_eq_true, decide_eq_true_eq, List.all_eq_true, List.mem_range] at hchk
  obtain ⟨⟨h1, h2⟩, h3⟩ := hchk
  refine wp_region_any hm ?_
  have hwords := allW_words (P := P) (R := R) (Φ := Φ) (a0 := a0) (w0 := w0) D C h3
  refine wpAny_of_factsL (R := R) (D := D.toArray) (Φ := fun j => Φ.getD j (fun _ _ => True)) (a0 := a0) (w0 := w0) hRt h1 ?_ hrr (fun i o hi ho => ?_) hpos hsink ?_ ops.size _ a0 _ (fun j => match (ops[j]?).bind (·.dst) with | some d => a0.tmps.getD d undef | none => undef) ?_ ⟨by simp, ?_, hd, ?_, ?_, ?_⟩ ?_ ?_
  · intro j v w w' hr hφ
    rcases Nat.lt_or_ge j Φ.length with hj | hj
    · have e : Φ.getD j (fun _ _ => True) = Φ[j] := by simp [List.getD_eq_getElem?_getD, hj]
      simp only [e] at hφ ⊢
      exact stL_mem Φ hst _ (List.getElem_mem hj) v w w' hr hφ
    · have e : Φ.getD j (fun _ _ => True) = fun _ _ => True := by simp [List.getD_eq_getElem?_getD, hj]
      simp only [e]
  · have hd2 := allW_dropLast D C h3 ops.toList.dropLast 0 D C (by simp) (by simp) (by simp) hop
    have := allWords_get _ 0 i o hd2 (by rw [List.getElem?_dropLast]; simp; exact ⟨by omega, ho⟩)
    simpa using this
  · intro o ho y w hr hf a ha
    subst ha
    have hl : ops.toList.getLast? = some o := by rw [List.getLast?_eq_getElem?]; simpa using ho
    have hc : lastOf C = canonL ops D.toArray (ops.size - 1) := by
      rw [lastOf_eq, ← h3 (ops.size - 1) (by omega), List.getLast?_eq_getElem?, List.getD_eq_getElem?_getD, hCl]; rfl
    rw [← hc]
    have ho2 : lastOf ops.toList = o := by rw [lastOf_eq, hl]; rfl
    rw [← ho2]
    exact hfin y w hr (factsH_of Φ 0 (by simp) (fun j h => hf j (by omega))) _ (fun _ _ h => h)
  · exact Nat.le_trans (List.length_filter_le _ _) (by simp)
  · symm
    have : ∀ (L : List (Nat × Nat)), (∀ p ∈ L, (ops[p.2]?).bind (·.dst) = some p.1) → fillL (fun j => match (ops[j]?).bind (·.dst) with | some d => a0.tmps.getD d undef | none => undef) L a0 = a0 := by
      intro L
      induction L with
      | nil => intro _; rfl
      | cons p L ih =>
        intro h
        obtain ⟨d, j⟩ := p
        have hd := h (d, j) (by simp)
        simp only at hd
        show fillL _ L (a0.put (some d) _) = a0
        simp only [hd]
        rw [put_self]
        exact ih (fun p hp => h p (by simp [hp]))
    exact this _ (fun p hp => mem_pairsOf.1 hp)
  · intro j hj
    have h : (Array.replicate ops.size false).getD j false = false := by
      simp [Array.getD]
    rw [h] at hj; cases hj
  · intro j d _ hdst
    simp only [hdst]
    exact put_self a0 d
  · intro j hj
    have h : (Array.replicate ops.size false).getD j false = false := by
      simp [Array.getD]
    rw [h] at hj; cases hj
  · intro j o _ hj
    have h : (Array.replicate ops.size false).getD j false = false := by
      simp [Array.getD]
    rw [h] at hj; cases hj
  · have h2 : ops.size - 1 < ops.size := by omega
    simp [Array.getD, h2]
where
  allW_dropLast {R : World → World → Prop} {Φ : List (Value → World → Prop)} {a0 : Act} {w0 : World} (D0 : List (List Nat)) (C0 : List (List (Nat × Nat))) (hC : ∀ i, i < ops.size → C0.getD i [] = canonL ops D0.toArray i) :
    ∀ (l : List Oper) (i : Nat) (D : List (List Nat)) (C : List (List (Nat × Nat))), i + l.length ≤ ops.size → (∀ k, D[k]? = D0[i + k]?) → (∀ k, C[k]? = C0[i + k]?) → allW P ops R Φ a0 w0 i l D C →
      allWords (opWord P ops R D0.toArray (fun j => Φ.getD j (fun _ _ => True)) a0 w0) i l := by
    intro l
    induction l with
    | nil => intros; trivial
    | cons o r ih =>
      intro i D C hl hD hC' h
      match D, C, h with
      | d :: ds, c :: cs, h =>
        obtain ⟨h1, h2⟩ := h
        refine ⟨?_, ih (i + 1) ds cs (by simp at hl; omega) (fun k => ?_) (fun k => ?_) h2⟩
        · have hd : D0.toArray.getD i [] = d := by
            have := hD 0
            simp at this
            simp [Array.getD_eq_getD_getElem?, ← this]
          have hc : canonL ops D0.toArray i = c := by
            rw [← hC i (by simp at hl; omega)]
            have := hC' 0
            simp at this
            simp [List.getD_eq_getElem?_getD, ← this]
          intro y w hR hj K hK
          rw [hd] at hj
          rw [hc] at hK ⊢
          exact h1 y w hR (depsH_of _ hj) K (fun a' v w' he hr hφ => by subst he; exact hK v w' hr hφ)
        · have := hD (k + 1)
          simp at this
          rw [this]; congr 1; omega
        · have := hC' (k + 1)
          simp at this
          rw [this]; congr 1; omega

end
theorem ite_yes {b : Bool} {p q : Prop} (hb : b = true) (h : p) : if b then p else q := by rw [if_pos hb]; exact h
theorem ite_no {b : Bool} {p q : Prop} (hb : b = false) (h : q) : if b then p else q := by rw [if_neg (by simp [hb])]; exact h
end Go.Proofs.Ytaoflhddcbmacaa
