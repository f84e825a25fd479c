/-
  Plain lemmas: the least width of a vector is the greatest of the least widths of its parts; more values need no less. Conditions: the values are those that 'value' makes.
-/
import Derived.Test.YtkabfefphdgppaaPlain16
import Derived.Test.YtkabfefphdgppaaHelp16
namespace Go.Proofs.Ytkabfefphdgppaa
open Go Go.RowKit

structure Mono (p : Int → Bool) : Prop where
  a : p 1 = true → p 2 = true
  b : p 2 = true → p 4 = true
  c : p 4 = true → p 8 = true
  d : p 8 = true

theorem Mono.and {p q : Int → Bool} (hp : Mono p) (hq : Mono q) : Mono (fun v => p v && q v) := by
  refine ⟨?_, ?_, ?_, ?_⟩ <;> simp only [Bool.and_eq_true]
  · exact fun h => ⟨hp.a h.1, hq.a h.2⟩
  · exact fun h => ⟨hp.b h.1, hq.b h.2⟩
  · exact fun h => ⟨hp.c h.1, hq.c h.2⟩
  · exact ⟨hp.d, hq.d⟩
theorem leastOf_and {p q : Int → Bool} (hp : Mono p) (hq : Mono q) : leastOf (fun v => p v && q v) = max (leastOf p) (leastOf q) := by
  obtain ⟨a, b, c, d⟩ := hp
  obtain ⟨a', b', c', d'⟩ := hq
  unfold leastOf
  cases e1 : p 1 <;> cases e2 : p 2 <;> cases e4 : p 4 <;> cases e8 : p 8 <;> cases f1 : q 1 <;> cases f2 : q 2 <;> cases f4 : q 4 <;> cases f8 : q 8 <;> first | (simp_all; done) | (simp_all; rfl)
theorem mono_true : Mono (fun _ => true) := ⟨fun _ => rfl, fun _ => rfl, fun _ => rfl, rfl⟩
theorem leastOf_true : leastOf (fun _ => true) = 1 := rfl
theorem mono_below (n : Int) (_h0 : 0 ≤ n) (h : n < 2 ^ 64) : Mono (fun v => belowW n v) := by
  refine ⟨?_, ?_, ?_, ?_⟩ <;> simp only [belowW, decide_eq_true_eq, Int.reduceToNat, Nat.reduceMul, Int.reducePow] <;> omega
theorem leastOf_below (n : Nat) (h : n < 2 ^ 64) : leastOf (fun v => belowW n v) = widthOf n := by
  have hb : ∀ v : Int, belowW n v = decide ((n : Int) < 2 ^ (8 * v.toNat)) := fun _ => rfl
  unfold widthOf
  by_cases h1 : n < 2 ^ 8
  · rw [if_pos h1]
    exact leastOf_1 (fun v => belowW n v) (by simp only [hb, decide_eq_true_eq, Int.reduceToNat, Nat.reduceMul, Int.reducePow]; omega)
  · have f1 : belowW n 1 = false := by simp only [hb, decide_eq_false_iff_not, Int.reduceToNat, Nat.reduceMul, Int.reducePow]; omega
    rw [if_neg h1]
    by_cases h2 : n < 2 ^ 16
    · rw [if_pos h2]
      exact leastOf_2 (fun v => belowW n v) f1 (by simp only [hb, decide_eq_true_eq, Int.reduceToNat, Nat.reduceMul, Int.reducePow]; omega)
    · have f2 : belowW n 2 = false := by simp only [hb, decide_eq_false_iff_not, Int.reduceToNat, Nat.reduceMul, Int.reducePow]; omega
      rw [if_neg h2]
      by_cases h4 : n < 2 ^ 32
      · rw [if_pos h4]
        exact leastOf_4 (fun v => belowW n v) f1 f2 (by simp only [hb, decide_eq_true_eq, Int.reduceToNat, Nat.reduceMul, Int.reducePow]; omega)
      · have f4 : belowW n 4 = false := by simp only [hb, decide_eq_false_iff_not, Int.reduceToNat, Nat.reduceMul, Int.reducePow]; omega
        rw [if_neg h4]
        exact leastOf_8 (fun v => belowW n v) f1 f2 f4 (by simp only [hb, decide_eq_true_eq, Int.reduceToNat, Nat.reduceMul, Int.reducePow]; omega)

/-- the two kinds of values that 'value' makes -/
theorem valOf_cases (a at_ : Int) (h : 1 ≤ at_) : (∃ wd, (wd = 1 ∨ wd = 2 ∨ wd = 4 ∨ wd = 8) ∧ valOf a at_ = (1, wd, 0)) ∨ (∃ n, 0 ≤ n ∧ n < at_ ∧ valOf a at_ = (5, 1, n)) := by
  unfold valOf
  by_cases hk : a % 7 < 4
  · rw [if_pos hk]
    left
    have h0 : 0 ≤ a % 7 := by omega
    obtain e | e | e | e : a % 7 = 0 ∨ a % 7 = 1 ∨ a % 7 = 2 ∨ a % 7 = 3 := by omega
    all_goals rw [e]
    · exact ⟨1, .inl rfl, rfl⟩
    · exact ⟨2, .inr (.inl rfl), rfl⟩
    · exact ⟨4, .inr (.inr (.inl rfl)), rfl⟩
    · exact ⟨8, .inr (.inr (.inr rfl)), rfl⟩
  · rw [if_neg hk]
    right
    refine ⟨_, Int.emod_nonneg _ (by omega), ?_, rfl⟩
    have := Int.emod_lt_of_pos a (by omega : 0 < max at_ 1)
    omega
theorem valOf_ok (a at_ : Int) (h : 1 ≤ at_) (h2 : at_ ≤ 1073741824) : okV (valOf a at_) := by
  rcases valOf_cases a at_ h with ⟨wd, _, e⟩ | ⟨n, h0, h1, e⟩
  · rw [e]; exact ⟨by show (0 : Int) ≤ 0; omega, by show (0 : Int) ≤ 18446744073709551615; omega⟩
  · rw [e]; exact ⟨h0, by show n ≤ 18446744073709551615; omega⟩
theorem mono_text (n at_ i : Int) (n0 : 0 ≤ n) (h : n ≤ at_) (a1 : at_ ≤ 2097152) (i0 : 0 ≤ i) (i1 : i ≤ 5001) : Mono (fun v => fitsV (5, 1, n) at_ i v) :=
  ⟨fun e => fitsT_up n at_ i 1 (.inl rfl) n0 (by omega) a1 i0 i1 e, fun e => fitsT_up n at_ i 2 (.inr (.inl rfl)) n0 (by omega) a1 i0 i1 e,
   fun e => fitsT_up n at_ i 4 (.inr (.inr rfl)) n0 (by omega) a1 i0 i1 e, fitsT_8 n at_ i n0 h (by omega) i0 (by omega)⟩
theorem mono_val (a at_ i : Int) (h : 1 ≤ at_) (a1 : at_ ≤ 2097152) (i0 : 0 ≤ i) (i1 : i ≤ 5001) : Mono (fun v => fitsV (valOf a at_) at_ i v) := by
  rcases valOf_cases a at_ h with ⟨wd, hw, e⟩ | ⟨n, h0, h1, e⟩
  · rw [e]
    have hf : ∀ v, fitsV (1, wd, 0) at_ i v = decide (wd ≤ v) := fun v => by
      unfold fitsV fitsF
      rw [show inlineB 1 = true by decide]
      rfl
    refine ⟨?_, ?_, ?_, ?_⟩ <;> simp only [hf, decide_eq_true_eq] <;> omega
  · rw [e]; exact mono_text n at_ i h0 (by omega) a1 i0 i1

theorem fitsL_snoc (l : List V3) (x : V3) (at_ i v : Int) : fitsL (l ++ [x]) at_ i v = (fitsL l at_ i v && fitsV x at_ (i + l.length) v) := by
  induction l generalizing i with
  | nil => simp [fitsL]
  | cons y r ih =>
    show (fitsV y at_ i v && fitsL (r ++ [x]) at_ (i + 1) v) = ((fitsV y at_ i v && fitsL r at_ (i + 1) v) && _)
    rw [ih, Bool.and_assoc]
    have e : i + 1 + (r.length : Int) = i + ((y :: r).length : Int) := by simp; omega
    rw [e]
theorem fitsL_append (l m : List V3) (at_ i v : Int) (h : fitsL (l ++ m) at_ i v = true) : fitsL l at_ i v = true := by
  induction l generalizing i with
  | nil => rfl
  | cons y r ih =>
    have h2 : (fitsV y at_ i v && fitsL (r ++ m) at_ (i + 1) v) = true := h
    rw [Bool.and_eq_true] at h2
    show (fitsV y at_ i v && fitsL r at_ (i + 1) v) = true
    rw [h2.1, ih _ h2.2]; rfl

/-- The predicate behind 'want' when the values l have been looked at, n being the length of all. -/
def wantP (n : Nat) (k : V3) (at_ ahead : Int) (l : List V3) (v : Int) : Bool := headF n k at_ ahead v && fitsL l at_ ahead v
theorem mono_fitsL (l : List Int) (at_ i : Int) (h : 1 ≤ at_) (a1 : at_ ≤ 2097152) (i0 : 0 ≤ i) (i1 : i + l.length ≤ 5001) : Mono (fun v => fitsL (l.map (valOf · at_)) at_ i v) := by
  induction l generalizing i with
  | nil => exact mono_true
  | cons y r ih => exact (mono_val y at_ i h a1 i0 (by simp at i1; omega)).and (ih (i + 1) (by omega) (by simp at i1; omega))
theorem mono_head (n : Nat) (k at_ ahead : Int) (ha : isA ahead) (hn : n ≤ 5000) (k0 : 0 ≤ k) (h : k ≤ at_) (a1 : at_ ≤ 2097152) : Mono (fun v => headF n (5, 1, k) at_ ahead v) := by
  have hb := mono_below (n : Int) (by omega) (by omega)
  have ht := mono_text k at_ 0 k0 h a1 (by omega) (by omega)
  rcases ha with rfl | rfl | rfl
  · have e : (fun v => headF n (5, 1, k) at_ 0 v) = fun _ => true := by funext v; simp [headF]
    rw [e]; exact mono_true
  · have e : (fun v => headF n (5, 1, k) at_ 1 v) = fun v => belowW n v := by funext v; simp [headF]
    rw [e]; exact hb
  · have e : (fun v => headF n (5, 1, k) at_ 3 v) = fun v => belowW n v && fitsV (5, 1, k) at_ 0 v := by funext v; simp [headF]
    rw [e]; exact hb.and ht
theorem oneF_val (a at_ i : Int) (h : 1 ≤ at_) (a1 : at_ ≤ 2097152) (i0 : 0 ≤ i) (i1 : i ≤ 5001) : oneF (valOf a at_).1 (valOf a at_).2.1 (valOf a at_).2.2 at_ i = leastOf (fun v => fitsV (valOf a at_) at_ i v) := by
  unfold oneF; rw [if_pos ⟨⟨by omega, by omega⟩, by omega, by omega⟩]; rfl
/-- The start of 'want'. -/
theorem want_start (n : Nat) (k at_ ahead : Int) (ha : isA ahead) (hn : n ≤ 5000) (k0 : 0 ≤ k) (h : k ≤ at_) (a1 : at_ ≤ 2097152) :
    leastOf (fun v => wantP n (5, 1, k) at_ ahead [] v) = if ahead = 0 then 1 else if ahead = 1 then widthOf n else max (widthOf n) (oneF 5 1 k at_ 0) := by
  have e0 : (fun v => wantP n (5, 1, k) at_ ahead [] v) = fun v => headF n (5, 1, k) at_ ahead v := by funext v; simp [wantP, fitsL]
  rw [e0]
  rcases ha with rfl | rfl | rfl
  · have e : (fun v => headF n (5, 1, k) at_ 0 v) = fun _ => true := by funext v; simp [headF]
    exact (congrArg leastOf e).trans rfl
  · have e : (fun v => headF n (5, 1, k) at_ 1 v) = fun v => belowW n v := by funext v; simp [headF]
    refine (congrArg leastOf e).trans ?_
    rw [leastOf_below n (by omega)]; rfl
  · have e : (fun v => headF n (5, 1, k) at_ 3 v) = fun v => belowW n v && fitsV (5, 1, k) at_ 0 v := by funext v; simp [headF]
    refine (congrArg leastOf e).trans ?_
    rw [leastOf_and (mono_below (n : Int) (by omega) (by omega)) (mono_text k at_ 0 k0 h a1 (by omega) (by omega)), leastOf_below n (by omega), oneT k at_ 0 (by omega) (by omega) (by omega) (by omega)]
    rfl
/-- One value more. -/
theorem want_step (n : Nat) (k at_ ahead : Int) (l : List Int) (x : Int) (ha : isA ahead) (hn : n ≤ 4000) (hl : l.length ≤ 4000) (k0 : 0 ≤ k) (h : k ≤ at_) (h1 : 1 ≤ at_) (a1 : at_ ≤ 2097152) :
    leastOf (fun v => wantP n (5, 1, k) at_ ahead ((l ++ [x]).map (valOf · at_)) v) = max (leastOf (fun v => wantP n (5, 1, k) at_ ahead (l.map (valOf · at_)) v)) (oneF (valOf x at_).1 (valOf x at_).2.1 (valOf x at_).2.2 at_ (ahead + l.length)) := by
  have ha2 : 0 ≤ ahead ∧ ahead ≤ 3 := by rcases ha with rfl | rfl | rfl <;> omega
  have e : (fun v => wantP n (5, 1, k) at_ ahead ((l ++ [x]).map (valOf · at_)) v) = fun v => wantP n (5, 1, k) at_ ahead (l.map (valOf · at_)) v && fitsV (valOf x at_) at_ (ahead + l.length) v := by
    funext v
    unfold wantP
    rw [List.map_append, List.map_cons, List.map_nil, fitsL_snoc, List.length_map, Bool.and_assoc]
  have hm : Mono (fun v => wantP n (5, 1, k) at_ ahead (l.map (valOf · at_)) v) := (mono_head n k at_ ahead ha (by omega) k0 h a1).and (mono_fitsL l at_ ahead h1 a1 ha2.1 (by omega))
  rw [e, leastOf_and hm (mono_val x at_ _ h1 a1 (by omega) (by omega)), oneF_val x at_ _ h1 a1 (by omega) (by omega)]
theorem want_end (k at_ ahead : Int) (l : List Int) (ha : isA ahead) (hl : l.length ≤ 4000) (h1 : 1 ≤ at_) (a1 : at_ ≤ 2097152) :
    allF (l.map (valOf · at_)) (5, 1, k) at_ ahead = leastOf (fun v => wantP l.length (5, 1, k) at_ ahead (l.map (valOf · at_)) v) := by
  unfold allF
  rw [if_pos ⟨⟨by omega, by omega⟩, ha, by rw [List.length_map]; omega⟩]
  unfold allAt wantP
  rw [List.length_map]
/-- More values need no less. -/
theorem all_more (k at_ ahead : Int) (l m : List Int) (ha : isA ahead) (hl : l.length + m.length ≤ 4000) (k0 : 0 ≤ k) (h : k ≤ at_) (h1 : 1 ≤ at_) (a1 : at_ ≤ 2097152) :
    allF (l.map (valOf · at_)) (5, 1, k) at_ ahead ≤ allF (l.map (valOf · at_) ++ m.map (valOf · at_)) (5, 1, k) at_ ahead := by
  have ha2 : 0 ≤ ahead ∧ ahead ≤ 3 := by rcases ha with rfl | rfl | rfl <;> omega
  rw [← List.map_append, want_end k at_ ahead l ha (by omega) h1 a1, want_end k at_ ahead (l ++ m) ha (by simp; omega) h1 a1]
  have key : ∀ v, isW v → wantP (l ++ m).length (5, 1, k) at_ ahead ((l ++ m).map (valOf · at_)) v = true → wantP l.length (5, 1, k) at_ ahead (l.map (valOf · at_)) v = true := by
    intro v _ hw
    unfold wantP at hw ⊢
    rw [Bool.and_eq_true] at hw ⊢
    obtain ⟨w1, w2⟩ := hw
    rw [List.map_append] at w2
    refine ⟨?_, fitsL_append _ _ _ _ _ w2⟩
    unfold headF at w1 ⊢
    rw [Bool.and_eq_true] at w1 ⊢
    refine ⟨?_, w1.2⟩
    have w11 := w1.1
    rw [Bool.or_eq_true] at w11 ⊢
    refine w11.imp id fun hb => ?_
    unfold belowW at hb ⊢
    rw [decide_eq_true_eq] at hb ⊢
    rw [List.length_append] at hb
    omega
  have m8 : wantP (l ++ m).length (5, 1, k) at_ ahead ((l ++ m).map (valOf · at_)) 8 = true :=
    ((mono_head (l ++ m).length k at_ ahead ha (by simp; omega) k0 h a1).and (mono_fitsL (l ++ m) at_ ahead h1 a1 ha2.1 (by simp; omega))).d
  exact leastOf_le _ _ (key 1 (.inl rfl)) (key 2 (.inr (.inl rfl))) (key 4 (.inr (.inr (.inl rfl)))) m8

end Go.Proofs.Ytkabfefphdgppaa
