/-
  Texts of the proof, part 5 of 5.
-/
import Derived.Test.YtajpbclcfjljnaaPD
import Derived.Test.YtajpbclcfjljnaaPC
import Derived.Deep.QuietTactic
import Derived.BigQuiet

/-
  The plain law of a map's encoding.
-/
namespace Go.Proofs.Ytajpbclcfjljnaa
open Go Go.ChangeShapes Go.WideShapes Go.ChangeAt Go.RowKit Go.Joins
open Go.Proofs.Ytajpbclcfjljnaa.Ft (V3 vV okV ValsAt inlineB legalB packF codeF typedF allF allAt headF fitsL fitsV fitsF belowW leastOf isA)
set_option linter.unusedVariables false
set_option linter.unusedSimpArgs false

/-- The keys of a map: a keys' value that lies before n. -/
def KeyAt (n : Int) (k : V3) : Prop := k.1 = 14 ∧ isW k.2.1 = true ∧ 0 ≤ k.2.2 ∧ k.2.2 ≤ n
theorem checkE_ok {n : Int} {k : V3} {l : List V3} (hk : KeyAt n k) (hl : ∀ v ∈ l, legalE v = 0) : checkE k l = 0 := by
  unfold checkE
  rw [if_pos hk.1, if_pos hk.2.1]
  induction l with
  | nil => rfl
  | cons v r ih =>
    show eachL legalE (if (0 : Int) = 0 then legalE v else 0) r = 0
    rw [if_pos rfl, hl v (by simp)]
    exact ih fun u hu => hl u (by simp [hu])
theorem key_inline {n : Int} {k : V3} (hk : KeyAt n k) : inlineB k.1 = false := by rw [hk.1]; decide
theorem allF_map {n : Int} {k : V3} {l : List V3} (hn : 0 ≤ n) (hn2 : n ≤ 1048576) (hl : l.length ≤ 1048575) (h : ∀ v ∈ l, Near n v) (hk : KeyAt n k) :
    allF l k n 3 = leastOf (fun v => allAt l k n 3 v) ∧ allF l k n 3 ≠ 0 ∧ isW (allF l k n 3) = true ∧ allAt l k n 3 (allF l k n 3) = true := by
  have hA : isA 3 := by simp [isA]
  have e : allF l k n 3 = leastOf (fun v => allAt l k n 3 v) := by
    unfold allF
    rw [if_pos ⟨⟨hn, by omega⟩, hA, by omega⟩]
  have p8 : (2 : Int) ^ (8 * (8 : Int).toNat) = 18446744073709551616 := by decide
  have h8 : allAt l k n 3 8 = true := by
    unfold allAt
    rw [fits_near l 3 h hn (by omega) (by omega), Bool.and_true]
    unfold headF
    have hb : belowW l.length 8 = true := by unfold belowW; rw [decide_eq_true_eq, p8]; omega
    have hkf : fitsV k n 0 8 = true := by
      unfold fitsV fitsF
      rw [key_inline hk]
      simp only [Bool.false_eq_true, if_false, Bool.and_eq_true, decide_eq_true_eq, belowW, p8]
      obtain ⟨_, _, h0, h1⟩ := hk
      exact ⟨h1, by omega⟩
    rw [hb, hkf]
    simp
  have h0 : allF l k n 3 ≠ 0 := by rw [e]; exact leastOf_ok h8
  refine ⟨e, h0, allF_isW h0, ?_⟩
  have := leastOf_holds (p := fun v => allAt l k n 3 v) (by rw [← e]; exact h0)
  rw [← e] at this
  exact this
/-- The pieces that Put appends. -/
def piecesM (x : Int) (k : V3) (b : List UInt8) (l : List V3) : List (List UInt8) :=
  zeros (padN b x) :: digB x.toNat ((b.length : Int) + padN b x - k.2.2).toNat :: digB x.toNat k.2.1.toNat :: digB x.toNat l.length :: (encL x ((b.length : Int) + padN b x + 3 * x) l ++ l.map fun v => [tagB x v])
def lenM (x : Int) (b : List UInt8) (l : List V3) : Int := b.length + padN b x + 3 * x + x * l.length + l.length
theorem length_piecesM {x : Int} (hx : isW x = true) (k : V3) (b : List UInt8) (l : List V3) : (b.length : Int) + (piecesM x k b l).flatten.length = lenM x b l := by
  have h1 := length_encL hx l ((b.length : Int) + padN b x + 3 * x)
  have h2 := length_tags x l
  have hp := isW_pos hx
  unfold piecesM lenM
  simp only [List.flatten_append, List.flatten_cons, List.length_append, length_zeros, length_digB] at h1 ⊢
  omega
theorem lenM_le {x : Int} (hx : isW x = true) (b : List UInt8) (l : List V3) : lenM x b l ≤ b.length + 31 + 9 * l.length := by
  have hw := isW_pos hx
  have hp := (padN_lt (l := b) hx).1
  have hm : x * (l.length : Int) ≤ 8 * l.length := Int.mul_le_mul_of_nonneg_right hw.2 (by omega)
  unfold lenM
  omega
/-- What fits: keys' offset, keys' width, length, elements. -/
theorem map_fits {n x : Int} {k : V3} {l : List V3} (hx : isW x = true) (hk : KeyAt n k) (h : allAt l k n 3 x = true) :
    (l.length : Int) < 2 ^ (8 * x.toNat) ∧ (0 ≤ (n + x - 1) / x * x - k.2.2 ∧ (n + x - 1) / x * x - k.2.2 < 2 ^ (8 * x.toNat)) ∧ fitsL l n 3 x = true := by
  unfold allAt headF at h
  simp only [Bool.and_eq_true, Bool.or_eq_true, belowW, decide_eq_true_eq] at h
  obtain ⟨⟨h1, h2⟩, h3⟩ := h
  have h4 : fitsV k n 0 x = true := by simpa using h2
  unfold fitsV fitsF at h4
  rw [key_inline hk] at h4
  simp only [Bool.false_eq_true, if_false, Bool.and_eq_true, decide_eq_true_eq, belowW, Int.zero_mul, Int.add_zero] at h4
  have hge : n ≤ (n + x - 1) / x * x := by rcases isW_cases hx with rfl | rfl | rfl | rfl <;> omega
  exact ⟨by simpa using h1, ⟨by omega, h4.2⟩, h3⟩
/-- Put, where there is room. -/
theorem putM_ok {most : Int} {k : V3} {b : List UInt8} {l : List V3} {x : Int} (hb : b.length ≤ 1048576) (hl : l.length ≤ 1048575) (h : ∀ v ∈ l, Near b.length v) (hk : KeyAt b.length k) (hx : allF l k b.length 3 = x) (hr : lenM x b l ≤ most) :
    putM most k l (b, 0) = (((9, x, (b.length : Int) + padN b x + 3 * x), 0), (b ++ (piecesM x k b l).flatten, 0)) := by
  obtain ⟨_, x0, hw, hall⟩ := allF_map (n := b.length) (by omega) (by omega) hl h hk
  rw [hx] at x0 hw hall
  have hwp := isW_pos hw
  have hpe := pad_eq hw b
  obtain ⟨hlen, hko, hfit⟩ := map_fits hw hk hall
  rw [← hpe] at hko
  have hk8 : k.2.1 < 2 ^ (8 * x.toNat) := by
    have h1 := isW_pos hk.2.1
    have h2 : (256 : Int) ≤ 2 ^ (8 * x.toNat) := by rcases isW_cases hw with rfl | rfl | rfl | rfl <;> decide
    omega
  have hfe : fitE x ((b.length : Int) + padN b x + 3 * x) l := fitE_of hw l 3 _ (by rw [hpe]) (by omega) hfit
  have hpl := length_piecesM hw k b l
  have hmul : 0 ≤ x * (l.length : Int) := Int.mul_nonneg (by omega) (by omega)
  have hkn : ¬ inlineB k.1 = true := by rw [key_inline hk]; decide
  unfold putM
  rw [if_neg (by rw [checkE_ok hk (legal_vals h)]; simp)]
  simp only [hx]
  rw [if_neg x0]
  have e1 : alignS most x (b, 0) = (b ++ zeros (padN b x), 0) := by
    unfold alignS
    rw [if_pos hw]
    exact put_fit _ _ _ (by rw [length_zeros]; show (b.length : Int) + (padN b x : Nat) ≤ most; unfold lenM at hr; omega)
  have hl1 : ((b ++ zeros (padN b x)).length : Int) = (b.length : Int) + padN b x := by rw [List.length_append, length_zeros]; omega
  have e2 : elemS most x (alignS most x (b, 0)) k = (b ++ zeros (padN b x) ++ digB x.toNat ((b.length : Int) + padN b x - k.2.2).toNat, 0) := by
    rw [e1, elemS_put hw (by unfold encN; rw [if_neg hkn, hl1]; exact hko)]
    unfold encN
    rw [if_neg hkn, hl1]
    exact put_fit _ _ _ (by simp only [List.length_append, length_digB, length_zeros]; unfold lenM at hr; omega)
  have e3 : headM most x k l.length (b, 0) = (b ++ zeros (padN b x) ++ digB x.toNat ((b.length : Int) + padN b x - k.2.2).toNat ++ digB x.toNat k.2.1.toNat ++ digB x.toNat l.length, 0) := by
    unfold headM
    rw [e2, numS_put hw hk8, put_fit _ _ _ (by simp only [List.length_append, length_digB, length_zeros]; unfold lenM at hr; omega), numS_put hw hlen]
    exact put_fit _ _ _ (by simp only [List.length_append, length_digB, length_zeros]; unfold lenM at hr; omega)
  have hl3 : ((b ++ zeros (padN b x) ++ digB x.toNat ((b.length : Int) + padN b x - k.2.2).toNat ++ digB x.toNat k.2.1.toNat ++ digB x.toNat l.length).length : Int) = (b.length : Int) + padN b x + 3 * x := by
    simp only [List.length_append, length_digB, length_zeros]; omega
  have e4 : tagsS most x l (elemsS most x l (headM most x k l.length (b, 0))) = (b ++ (piecesM x k b l).flatten, 0) := by
    rw [e3, elemsS_chain hw l _ (by rw [hl3]; exact hfe), hl3, tagsS_chain, ← chain_append]
    have hfl : (b ++ zeros (padN b x) ++ digB x.toNat ((b.length : Int) + padN b x - k.2.2).toNat ++ digB x.toNat k.2.1.toNat ++ digB x.toNat l.length) ++ (encL x ((b.length : Int) + padN b x + 3 * x) l ++ l.map fun v => [tagB x v]).flatten = b ++ (piecesM x k b l).flatten := by
      unfold piecesM
      simp only [List.flatten_cons, List.append_assoc]
    rw [chain_fit _ _ (by rw [← Int.natCast_add, ← List.length_append, hfl, List.length_append]; omega), hfl]
  rw [e4, e3]
  simp only [ne_eq, not_true_eq_false, if_false]
  rw [hl3]
end Go.Proofs.Ytajpbclcfjljnaa

/-
  Maps: the law's values are near; half of the least width does not fit.
-/
namespace Go.Proofs.Ytajpbclcfjljnaa
open Go Go.ChangeShapes Go.WideShapes Go.ChangeAt Go.RowKit Go.Joins
open Go.Proofs.Ytajpbclcfjljnaa.Ft (V3 vV okV ValsAt inlineB legalB packF codeF typedF allF allAt headF fitsL fitsV fitsF belowW leastOf isA)
set_option linter.unusedVariables false
set_option linter.unusedSimpArgs false

theorem valM_cases (x : Int × Int) (a : Int) (ha : 1 ≤ a) :
    (∃ n : Int, 0 ≤ n ∧ n < 1099511627776 ∧ valM x a = (1, widF n, n)) ∨ (∃ t w u : Int, valM x a = (t, w, u) ∧ legalB t = true ∧ inlineB t = false ∧ isW w = true ∧ 0 ≤ u ∧ u < a) := by
  unfold valM
  have h0 : 0 ≤ x.2 % 1099511627776 := by omega
  have h1 : x.2 % 1099511627776 < 1099511627776 := by omega
  generalize x.2 % 1099511627776 = n at *
  split
  · exact .inl ⟨n, h0, h1, rfl⟩
  · refine .inr ⟨_, _, _, rfl, (far_facts _ (by omega) (by omega)).1, (far_facts _ (by omega) (by omega)).2, shl_isW _ (by omega) (by omega), Int.emod_nonneg _ (by omega), Int.emod_lt_of_pos _ (by omega)⟩
theorem near_valM (x : Int × Int) (a : Int) (ha : 1 ≤ a) (ha2 : a ≤ 1048576) : Near a (valM x a) := by
  rcases valM_cases x a ha with ⟨n, h0, h1, h⟩ | ⟨t, w, u, h, hl, hi, hww, hu0, hu1⟩
  · rw [h]
    exact ⟨legal_of_inline _ _ _ inl_1 (by decide), ⟨by show 0 ≤ n; omega, by show n ≤ _; omega⟩, fun _ => widF_le n, fun h => absurd inl_1 (by rw [show inlineB 1 = false from h]; decide)⟩
  · rw [h]
    refine ⟨?_, ⟨hu0, by show u ≤ _; omega⟩, fun h => ?_, fun _ => by show u ≤ a; omega⟩
    · unfold legalE
      rw [if_pos hl]
      simp only [hi, hww, Bool.false_eq_true, if_false, if_true]
    · rw [show inlineB t = true from h] at hi; cases hi
theorem near_valsM (l : List (Int × Int)) (a : Int) (ha : 1 ≤ a) (ha2 : a ≤ 1048576) : ∀ v ∈ valsM l a, Near a v := by
  intro v hv
  obtain ⟨x, _, rfl⟩ := List.mem_map.1 hv
  exact near_valM x a ha ha2
def tightAtM (h bg : Int) (i : Nat) (v : V3) : Prop := (inlineB v.1 = true ∧ h < v.2.1) ∨ (inlineB v.1 = false ∧ 2 ^ (8 * h.toNat) ≤ bg + (i + 3) * h - v.2.2)
theorem half_tightM {n : Int} {k : V3} {l : List V3} {x h : Int} (hn : 0 ≤ n) (hn2 : n ≤ 1048576) (hl : l.length ≤ 1048575) (hN : ∀ v ∈ l, Near n v) (hk : KeyAt n k) (hx : allF l k n 3 = x) (hh : x = 2 * h) (h1 : 1 ≤ h) :
    (2 : Int) ^ (8 * h.toNat) ≤ l.length ∨ (2 : Int) ^ (8 * h.toNat) ≤ (n + h - 1) / h * h - k.2.2 ∨ ∃ (i : Nat) (v : V3), l[i]? = some v ∧ tightAtM h ((n + h - 1) / h * h) i v := by
  obtain ⟨e, x0, hw, hall⟩ := allF_map hn hn2 hl hN hk
  have hf : allAt l k n 3 h = false := by
    rw [hx] at e
    rw [hx] at hw
    have hc := isW_cases hw
    cases hp1 : allAt l k n 3 1 with
    | true => have : leastOf (fun v => allAt l k n 3 v) = 1 := by unfold leastOf; simp [hp1]
              omega
    | false =>
      cases hp2 : allAt l k n 3 2 with
      | true => have : leastOf (fun v => allAt l k n 3 v) = 2 := by unfold leastOf; simp [hp1, hp2]
                have : h = 1 := by omega
                rw [this]; exact hp1
      | false =>
        cases hp4 : allAt l k n 3 4 with
        | true => have : leastOf (fun v => allAt l k n 3 v) = 4 := by unfold leastOf; simp [hp1, hp2, hp4]
                  have : h = 2 := by omega
                  rw [this]; exact hp2
        | false =>
          rcases (show h = 1 ∨ h = 2 ∨ h = 4 by omega) with rfl | rfl | rfl
          · exact hp1
          · exact hp2
          · exact hp4
  unfold allAt at hf
  rw [Bool.and_eq_false_iff] at hf
  rcases hf with hf | hf
  · unfold headF at hf
    rw [Bool.and_eq_false_iff] at hf
    rcases hf with hf | hf
    · left
      unfold belowW at hf
      simp at hf
      exact hf
    · right; left
      have h4 : fitsV k n 0 h = false := by simpa using hf
      unfold fitsV fitsF at h4
      rw [key_inline hk] at h4
      simp only [Bool.false_eq_true, if_false, belowW, Bool.and_eq_false_iff, decide_eq_false_iff_not, Int.zero_mul, Int.add_zero] at h4
      have := hk.2.2.2
      rcases h4 with h4 | h4
      · omega
      · omega
  · right; right
    obtain ⟨j, v, hj, hv⟩ := fitsL_false _ _ _ _ hf
    refine ⟨j, v, hj, ?_⟩
    have hNv := hN v (List.mem_of_getElem? hj)
    unfold fitsV fitsF at hv
    unfold tightAtM
    cases hi : inlineB v.1 with
    | true =>
      rw [hi] at hv
      simp at hv
      exact .inl ⟨rfl, hv⟩
    | false =>
      rw [hi] at hv
      have := hNv.2.2.2 hi
      simp only [Bool.false_eq_true, if_false, belowW, Bool.and_eq_false_iff, decide_eq_false_iff_not] at hv
      refine .inr ⟨rfl, ?_⟩
      rcases hv with hv | hv
      · omega
      · rw [show ((j : Int) + 3) * h = (3 + j) * h by rw [Int.add_comm]]
        omega
def tightToM (h bg : Int) (T0 : Prop) (L : List V3) (k : Nat) (tb : Bool) : Prop := tb = true ↔ (T0 ∨ ∃ j : Nat, j < k ∧ ∃ v, L[j]? = some v ∧ tightAtM h bg j v)
theorem tightToM.step {h bg : Int} {T0 : Prop} {L : List V3} {k : Nat} {tb : Bool} {v : V3} (hv : L[k]? = some v) (nb : Bool) (hnb : nb = true ↔ tightAtM h bg k v) (ht : tightToM h bg T0 L k tb) : tightToM h bg T0 L (k + 1) (tb || nb) := by
  unfold tightToM at *
  rw [Bool.or_eq_true, ht, hnb]
  constructor
  · rintro ((h | ⟨j, h1, u, h2, h3⟩) | h)
    · exact .inl h
    · exact .inr ⟨j, by omega, u, h2, h3⟩
    · exact .inr ⟨k, by omega, v, hv, h⟩
  · rintro (h | ⟨j, h1, u, h2, h3⟩)
    · exact .inl (.inl h)
    · by_cases e : j = k
      · subst e
        rw [hv] at h2
        cases h2
        exact .inr h3
      · exact .inl (.inr ⟨j, by omega, u, h2, h3⟩)
theorem tightToM.zero (h bg : Int) (T0 : Prop) (L : List V3) (tb : Bool) (hb : tb = true ↔ T0) : tightToM h bg T0 L 0 tb := by
  unfold tightToM
  rw [hb]
  exact ⟨fun h => .inl h, fun h => by
    rcases h with h | ⟨j, h, _⟩
    · exact h
    · omega⟩
theorem tightM_far {h bg : Int} {k : Nat} {ty wd vn : Int} (hi : inlineB ty = false) (P : Int) (hP : P = 2 ^ (8 * h.toNat)) (E : Int) (hE : E = bg + (k + 3) * h - vn) : (decide (P ≤ E) = true ↔ tightAtM h bg k (ty, wd, vn)) := by
  rw [decide_eq_true_eq, hP, hE]
  unfold tightAtM
  exact ⟨fun h => .inr ⟨hi, h⟩, fun h => by
    rcases h with h | h
    · rw [show inlineB ty = true from h.1] at hi; cases hi
    · exact h.2⟩
end Go.Proofs.Ytajpbclcfjljnaa

/-
  Maps: what is read back of the encoding.
-/
namespace Go.Proofs.Ytajpbclcfjljnaa
open Go Go.ChangeShapes Go.WideShapes Go.ChangeAt Go.RowKit Go.Joins
open Go.Proofs.Ytajpbclcfjljnaa.Ft (V3 vV okV ValsAt inlineB legalB packF codeF typedF allF allAt headF fitsL fitsV fitsF belowW leastOf isA unpackF)
set_option linter.unusedVariables false
set_option linter.unusedSimpArgs false

/-- All that a map's bytes hold behind what was written before. -/
structure HeldM (x p : Int) (k : V3) (b X : List UInt8) (l : List V3) : Prop where
  head : X.take b.length = b
  len : (X.length : Int) = p + x * l.length + l.length
  off : loadF X (p - 3 * x) x = (p - 3 * x - k.2.2, 0)
  wide : loadF X (p - 2 * x) x = (k.2.1, 0)
  many : loadF X (p - x) x = ((l.length : Int), 0)
  elem : ∀ (j : Nat) (v : V3), l[j]? = some v → loadF X (p + j * x) x = (encN x (p + j * x) v, 0)
  tag : ∀ (j : Nat) (v : V3), l[j]? = some v → X[(p + l.length * x).toNat + j]? = some (tagB x v)
theorem heldM {b : List UInt8} {k : V3} {l : List V3} {x p : Int} (hn : b.length ≤ 1048576) (hl : l.length ≤ 1048575) (h : ∀ v ∈ l, Near b.length v) (hk : KeyAt b.length k) (hx : allF l k b.length 3 = x) (hp : (b.length : Int) + padN b x + 3 * x = p) :
    isW x = true ∧ HeldM x p k b (b ++ (piecesM x k b l).flatten) l ∧ (p - 3 * x) % x = 0 ∧ (b.length : Int) ≤ p - 3 * x ∧ p - 3 * x < b.length + x ∧ (∀ v ∈ l, inlineB v.1 = true → v.2.1 ≤ x) ∧ k.2.2 ≤ p - 3 * x := by
  obtain ⟨_, x0, hw, hall⟩ := allF_map (n := b.length) (by omega) (by omega) hl h hk
  rw [hx] at hw hall
  have hwp := isW_pos hw
  obtain ⟨hlen, hko, hfit⟩ := map_fits hw hk hall
  have hpad := padN_lt (l := b) hw
  have hpe := pad_eq hw b
  rw [← hpe] at hko
  have hk8 : k.2.1 < 2 ^ (8 * x.toNat) := by
    have h1 := isW_pos hk.2.1
    have h2 : (256 : Int) ≤ 2 ^ (8 * x.toNat) := by rcases isW_cases hw with rfl | rfl | rfl | rfl <;> decide
    omega
  have hkp := isW_pos hk.2.1
  have hfe : fitE x p l := fitE_of hw l 3 p (by rw [← hp, hpe]) (by omega) hfit
  have hEl := length_encL hw l p
  have hpieces : (piecesM x k b l).flatten = zeros (padN b x) ++ digB x.toNat (p - 3 * x - k.2.2).toNat ++ digB x.toNat k.2.1.toNat ++ digB x.toNat l.length ++ (encL x p l).flatten ++ l.map (tagB x) := by
    unfold piecesM
    rw [hp, show (b.length : Int) + padN b x - k.2.2 = p - 3 * x - k.2.2 by omega]
    simp [flatten_tags]
  rw [hpieces]
  clear hpieces hall
  refine ⟨hw, ⟨?_, ?_, ?_, ?_, ?_, ?_, ?_⟩, ?_, ?_, ?_, ?_, ?_⟩
  · simp only [List.append_assoc]; exact List.take_left' rfl
  · simp only [List.length_append, length_zeros, length_digB, List.length_map] at hEl ⊢; omega
  · refine loadF_at (A := b ++ zeros (padN b x)) (C := digB x.toNat k.2.1.toNat ++ digB x.toNat l.length ++ (encL x p l).flatten ++ l.map (tagB x)) hw ?_ ?_ (by omega) (by omega)
    · simp only [List.append_assoc]
    · rw [List.length_append, length_zeros]; omega
  · refine loadF_at (A := b ++ zeros (padN b x) ++ digB x.toNat (p - 3 * x - k.2.2).toNat) (C := digB x.toNat l.length ++ (encL x p l).flatten ++ l.map (tagB x)) hw ?_ ?_ (by omega) hk8
    · simp only [List.append_assoc]
    · simp only [List.length_append, length_zeros, length_digB]; omega
  · refine loadF_at (A := b ++ zeros (padN b x) ++ digB x.toNat (p - 3 * x - k.2.2).toNat ++ digB x.toNat k.2.1.toNat) (C := (encL x p l).flatten ++ l.map (tagB x)) hw ?_ ?_ (by omega) hlen
    · simp only [List.append_assoc, Int.toNat_natCast]
    · simp only [List.length_append, length_zeros, length_digB]; omega
  · intro j v hj
    obtain ⟨A, C, hA, hAk⟩ := encL_at hw l p j v hj
    have hb := fitE_get l p j v hfe hj
    refine loadF_at (A := b ++ zeros (padN b x) ++ digB x.toNat (p - 3 * x - k.2.2).toNat ++ digB x.toNat k.2.1.toNat ++ digB x.toNat l.length ++ A) (C := C ++ l.map (tagB x)) hw ?_ ?_ hb.1 hb.2
    · rw [hA]; simp only [List.append_assoc]
    · simp only [List.length_append, length_zeros, length_digB]; omega
  · intro j v hj
    have hXl : (b ++ (zeros (padN b x) ++ digB x.toNat (p - 3 * x - k.2.2).toNat ++ digB x.toNat k.2.1.toNat ++ digB x.toNat l.length ++ (encL x p l).flatten)).length = (p + l.length * x).toNat := by
      have : (l.length : Int) * x = x * l.length := Int.mul_comm _ _
      simp only [List.length_append, length_zeros, length_digB] at hEl ⊢
      omega
    rw [← List.append_assoc, ← hXl, List.getElem?_append_right (by omega), Nat.add_sub_cancel_left, List.getElem?_map, hj]
    rfl
  · have : p - 3 * x = ((b.length : Int) + x - 1) / x * x := by rw [← hp, ← hpe]; omega
    rw [this]
    exact Int.mul_emod_left _ _
  · omega
  · omega
  · intro v hv hi
    obtain ⟨j, hj, hjv⟩ := List.getElem_of_mem hv
    have := fitsL_get l _ _ x j v hfit (by rw [List.getElem?_eq_getElem hj, hjv])
    unfold fitsV fitsF at this
    rw [if_pos hi] at this
    exact of_decide_eq_true this
  · omega
/-- What is read stays when more is written. -/
theorem loadF_more {X Z : List UInt8} {at_ x u : Int} (h : loadF X at_ x = (u, 0)) : loadF (X ++ Z) at_ x = (u, 0) := by
  unfold loadF at h ⊢
  by_cases hw : isW x = true
  · have hp := isW_pos hw
    rw [if_pos hw] at h ⊢
    by_cases hb : (at_ < 0 ∨ at_ > X.length - x)
    · rw [if_pos hb] at h
      simp at h
    · rw [if_neg hb] at h
      rw [if_neg (by rw [List.length_append]; omega)]
      rw [List.drop_append_of_le_length (by omega), List.take_append_of_le_length (by rw [List.length_drop]; omega)]
      exact h
  · rw [if_neg hw] at h
    simp at h
/-- How a value of the law is read back. -/
def BackM (x : Int) (v : V3) : Prop := (v.1 = 1 ∧ IntKind.u64.wrap (sgnF (lowF v.2.2 x) x) = v.2.2) ∨ (inlineB v.1 = false ∧ v.1 ≠ 1)
theorem back_valsM (l : List (Int × Int)) (a x : Int) (ha : 1 ≤ a) (hx : isW x = true) : ∀ v ∈ valsM l a, (inlineB v.1 = true → v.2.1 ≤ x) → BackM x v := by
  intro v hv
  obtain ⟨y, _, rfl⟩ := List.mem_map.1 hv
  rcases valM_cases y a ha with ⟨n, h0, h1, h⟩ | ⟨t, w, u, h, hl, hi, hww, hu0, hu1⟩
  · rw [h]; intro hw; exact .inl ⟨rfl, (sgn_pos hx h0 h1 (hw inl_1)).1⟩
  · rw [h]; intro _
    exact .inr ⟨hi, by rintro e; rw [show t = 1 from e] at hi; cases hi⟩
end Go.Proofs.Ytajpbclcfjljnaa

/-
  Maps: values and tags are those of an untyped vector at the same place.
-/
namespace Go.Proofs.Ytajpbclcfjljnaa
open Go Go.ChangeShapes Go.WideShapes Go.ChangeAt Go.RowKit Go.Joins
open Go.Proofs.Ytajpbclcfjljnaa.Ft (V3 vV okV ValsAt inlineB legalB packF codeF typedF allF allAt headF fitsL fitsV fitsF belowW leastOf isA unpackF)
set_option linter.unusedVariables false
set_option linter.unusedSimpArgs false

theorem fits_shift {n x a : Int} (hx : isW x = true) (ha : a = (n + x - 1) / x * x + 2 * x) (hna : n ≤ a) : ∀ (l : List V3) (i : Int), fitsL l n (i + 2) x = true → fitsL l a i x = true
  | [], _, _ => rfl
  | v :: r, i, h => by
    have h0 : (fitsV v n (i + 2) x && fitsL r n (i + 2 + 1) x) = true := h
    simp only [Bool.and_eq_true] at h0
    show (fitsV v a i x && fitsL r a (i + 1) x) = true
    rw [fits_shift hx ha hna r (i + 1) (by rw [show i + 1 + 2 = i + 2 + 1 by omega]; exact h0.2), Bool.and_true]
    have h1 := h0.1
    unfold fitsV fitsF at h1 ⊢
    cases hi : inlineB v.1 with
    | true => rw [hi] at h1; exact h1
    | false =>
      rw [hi] at h1
      simp only [Bool.false_eq_true, if_false, Bool.and_eq_true, decide_eq_true_eq, belowW] at h1 ⊢
      have e : (a + x - 1) / x * x = a := by
        rcases isW_cases hx with rfl | rfl | rfl | rfl <;> omega
      rw [e]
      have e2 : (i + 2) * x = i * x + 2 * x := Int.add_mul _ _ _
      exact ⟨by omega, by omega⟩
theorem leastOf_le {q : Int → Bool} {x : Int} (hx : isW x = true) (h : q x = true) : leastOf q ≤ x := by
  rcases isW_cases hx with rfl | rfl | rfl | rfl
  all_goals
    unfold leastOf
    repeat' split
    all_goals first | omega | simp_all
theorem vec_least {n x a : Int} {k : V3} {l : List V3} (hn : 0 ≤ n) (hn2 : n ≤ 200000) (hl : l.length ≤ 1048575) (h : ∀ v ∈ l, Near n v) (hk : KeyAt n k) (hx : allF l k n 3 = x) (ha : a = (n + x - 1) / x * x + 2 * x) (hna : n ≤ a) (ha2 : a ≤ 1048576) :
    allF l (0, 0, 0) a 1 ≤ x := by
  obtain ⟨_, x0, hw, hall⟩ := allF_map hn (by omega) hl h hk
  rw [hx] at hw hall
  obtain ⟨hlen, hko, hfit⟩ := map_fits hw hk hall
  obtain ⟨e, _, _, _⟩ := allF_near (n := a) (ahead := 1) (l := l) (.inr rfl) (by omega) ha2 (by omega) (fun v hv => ⟨(h v hv).1, (h v hv).2.1, (h v hv).2.2.1, fun e => Int.le_trans ((h v hv).2.2.2 e) hna⟩)
  rw [e]
  refine leastOf_le hw ?_
  unfold allAt headF
  rw [fits_shift hw ha hna l 1 hfit, Bool.and_true]
  have hb : belowW l.length x = true := by unfold belowW; exact decide_eq_true hlen
  rw [hb]
  simp
theorem same_tail {n q : Nat} {l : List V3} {k : V3} {x p : Int} (hw : isW x = true) (hp : ((zeros n).length : Int) + padN (zeros n) x + 3 * x = p) (hq : (q : Int) = p - x) :
    ((zeros n ++ (piecesM x k (zeros n) l).flatten).drop p.toNat = (zeros q ++ (pieces x true true (zeros q) l).flatten).drop p.toNat) ∧ (zeros n ++ (piecesM x k (zeros n) l).flatten).length = (zeros q ++ (pieces x true true (zeros q) l).flatten).length ∧ p.toNat ≤ (zeros n ++ (piecesM x k (zeros n) l).flatten).length ∧ padN (zeros q) x = 0 := by
  have hxp := isW_pos hw
  have hpe := pad_eq hw (zeros n)
  have hz : padN (zeros q) x = 0 := by
    unfold padN
    rw [length_zeros, hq]
    rw [length_zeros] at hp hpe
    have : (p - x) % x = 0 := by
      have d : x ∣ p - x := ⟨((n : Int) + x - 1) / x + 2, by
        rw [Int.mul_add, Int.mul_comm x (_ / x)]
        rw [Int.mul_comm x 2]
        omega⟩
      exact Int.emod_eq_zero_of_dvd d
    rw [this]
    simp
  have e1 : zeros n ++ (piecesM x k (zeros n) l).flatten = (zeros n ++ zeros (padN (zeros n) x) ++ digB x.toNat (((zeros n).length : Int) + padN (zeros n) x - k.2.2).toNat ++ digB x.toNat k.2.1.toNat ++ digB x.toNat l.length) ++ ((encL x p l).flatten ++ l.map (tagB x)) := by
    unfold piecesM
    rw [hp]
    simp [flatten_tags]
  have e2 : zeros q ++ (pieces x true true (zeros q) l).flatten = (zeros q ++ digB x.toNat l.length) ++ ((encL x p l).flatten ++ l.map (tagB x)) := by
    unfold pieces
    rw [hz, show ((zeros q).length : Int) + ((0 : Nat) : Int) + (if true = true then x else 0) = p by rw [length_zeros, if_pos rfl]; omega]
    have z0 : zeros 0 = [] := rfl
    simp [flatten_tags, z0]
  have l1 : (zeros n ++ zeros (padN (zeros n) x) ++ digB x.toNat (((zeros n).length : Int) + padN (zeros n) x - k.2.2).toNat ++ digB x.toNat k.2.1.toNat ++ digB x.toNat l.length).length = p.toNat := by
    simp only [List.length_append, length_zeros, length_digB] at hp ⊢
    omega
  have l2 : (zeros q ++ digB x.toNat l.length).length = p.toNat := by
    simp only [List.length_append, length_zeros, length_digB]
    omega
  rw [e1, e2]
  refine ⟨?_, ?_, ?_, hz⟩
  · rw [List.drop_left' l1, List.drop_left' l2]
  · rw [List.length_append, l1, @List.length_append _ (zeros q ++ digB x.toNat l.length), l2]
  · rw [List.length_append, l1]; omega
end Go.Proofs.Ytajpbclcfjljnaa

/-
  VecApart: two vectors do not overlap, and the second can hold the first. Conditions: none beyond the statement's own.
-/
namespace Go.Proofs.Ytajpbclcfjljnaa
open Go Go.ChangeShapes Go.WideShapes Go.ChangeAt Go.RowKit Go.Joins Go.Deep
open Go.Proofs.Ytajpbclcfjljnaa.Ft (V3 vV okV ValsAt inlineB legalB packF codeF typedF allF)
set_option linter.unusedVariables false
set_option linter.unusedSimpArgs false

abbrev Z0 : Obj := rowV (0, 0, 0)
/-- One struct cell, fresh or told, is told: all else lies as it lay. -/
def Told (B0 : Nat) (z : Obj) (w w' : World) : Prop := w = w' ∨ ∃ g, B0 ≤ g ∧ (w.heap[g]? = some Z0 ∨ w.heap[g]? = some z) ∧ Moved (fun k => k = g) w w' ∧ w'.heap[g]? = some z
/-- All that the region may do. -/
structure Reach2 (S : Nat → Prop) (B0 : Nat) (w w' : World) : Prop where
  os : w'.os = w.os
  tape : w'.tape = w.tape
  output : w'.output = w.output
  size : w.heap.size ≤ w'.heap.size
  block : ∀ k, k < w.heap.size → k < B0 → ¬ S k → w'.heap[k]? = w.heap[k]?
theorem Reach2.trans {S : Nat → Prop} {B0 : Nat} {a b c : World} (h : Reach2 S B0 a b) (k : Reach2 S B0 b c) : Reach2 S B0 a c :=
  ⟨k.os.trans h.os, k.tape.trans h.tape, k.output.trans h.output, Nat.le_trans h.size k.size, fun j h1 h2 h3 => (k.block j (Nat.lt_of_lt_of_le h1 h.size) h2 h3).trans (h.block j h1 h2 h3)⟩
theorem Reach2.refl (S : Nat → Prop) (B0 : Nat) (w : World) : Reach2 S B0 w w := ⟨rfl, rfl, rfl, Nat.le_refl _, fun _ _ _ _ => rfl⟩
theorem Reach2.of_moved {S : Nat → Prop} {B0 : Nat} {w w' : World} (h : Moved S w w') : Reach2 S B0 w w' := ⟨h.os, h.tape, h.output, h.size, fun k h1 _ h3 => h.block k h1 h3⟩
theorem Reach2.of_told {S : Nat → Prop} {B0 : Nat} {z : Obj} {w w' : World} (h : Told B0 z w w') : Reach2 S B0 w w' := by
  rcases h with rfl | ⟨g, hg, _, hm, _⟩
  · exact Reach2.refl _ _ _
  · exact ⟨hm.os, hm.tape, hm.output, hm.size, fun k h1 h2 _ => hm.block k h1 (by omega)⟩
def stepT (S : Nat → Prop) (B0 : Nat) (z : Obj) (i : Nat) (w w' : World) : Prop := if i = 6 then Moved S w w' else if i = 11 then Told B0 z w w' else Grew w w'
theorem stepT_cases {S : Nat → Prop} {B0 : Nat} {z : Obj} {i : Nat} {w w' : World} (h : stepT S B0 z i w w') : (i = 6 ∧ Moved S w w') ∨ (i = 11 ∧ Told B0 z w w') ∨ Grew w w' := by
  unfold stepT at h
  split at h
  · exact .inl ⟨by assumption, h⟩
  · split at h
    · exact .inr (.inl ⟨by assumption, h⟩)
    · exact .inr (.inr h)
theorem stepT_reach {S : Nat → Prop} {B0 : Nat} {z : Obj} (i : Nat) (w w' : World) (h : stepT S B0 z i w w') : Reach2 S B0 w w' := by
  rcases stepT_cases h with ⟨_, h⟩ | ⟨_, h⟩ | h
  · exact Reach2.of_moved h
  · exact Reach2.of_told h
  · exact Reach2.of_moved (Moved.of_grew h)
theorem stepT_refl {S : Nat → Prop} {B0 : Nat} {z : Obj} (i : Nat) (w : World) : stepT S B0 z i w w := by
  unfold stepT
  split
  · exact Moved.refl _ _
  · split
    · exact .inl rfl
    · exact Grew.refl _
/-- A block of other content abides. -/
theorem stepT_heap {S : Nat → Prop} {B0 : Nat} {z : Obj} {i : Nat} {w w' : World} (h : stepT S B0 z i w w') {k : Nat} {ob : Obj} (hk : w.heap[k]? = some ob) (hS : ¬ S k) (h0 : ob ≠ Z0) (hz : ob ≠ z) : w'.heap[k]? = some ob := by
  rcases stepT_cases h with ⟨_, h⟩ | ⟨_, h⟩ | h
  · exact h.heap hk hS
  · rcases h with rfl | ⟨g, hg, hc, hm, _⟩
    · exact hk
    · refine hm.heap hk fun e => ?_
      subst e
      rw [hk] at hc
      rcases hc with hc | hc
      · exact h0 (by injection hc)
      · exact hz (by injection hc)
  · exact h.heap hk
theorem stepT_own {S : Nat → Prop} {B0 : Nat} {z : V3} {i : Nat} {w w' : World} (h : stepT S B0 (rowV z) i w w') (hS : ∀ k, S k → k < B0) {v : Value} {M : List V3} (ho : OwnVals w B0 v M) (hM : ∀ u ∈ M, u ≠ (0, 0, 0) ∧ u ≠ z) : OwnVals w' B0 v M := by
  rcases stepT_cases h with ⟨_, h⟩ | ⟨_, h⟩ | h
  · refine Moved.owns h ho fun k hk => ?_
    rcases ho.2 with ⟨rfl, _⟩ | ⟨g, cap, cur, rfl, hb, _⟩
    · cases hk
    · have : k = g := by injection hk with hk; exact hk.symm
      subst this
      intro hq
      have := hS k hq
      omega
  · rcases h with rfl | ⟨g, hg, hc, hm, hz⟩
    · exact ho
    · obtain ⟨h1, h2⟩ := ho
      rcases h2 with ⟨rfl, hn⟩ | ⟨g2, cap, cur, rfl, hb, hg2, hnc, hcm, hcs, htake⟩
      · exact ⟨h1, .inl ⟨rfl, hn⟩⟩
      · by_cases e : g2 = g
        · subst e
          have hone : ∃ u : V3, (u = (0, 0, 0) ∨ u = z) ∧ w.heap[g2]? = some (rowV u) := by
            rcases hc with hc | hc
            · exact ⟨_, .inl rfl, hc⟩
            · exact ⟨_, .inr rfl, hc⟩
          obtain ⟨u, hu, hcu⟩ := hone
          rw [hcu] at hg2
          injection hg2 with hg2
          injection hg2 with hcur _
          subst hcur
          have hcap : cap = 1 := by have : 3 = cap * 3 := hcs; omega
          subst hcap
          cases M with
          | nil =>
            refine ⟨h1, .inr ⟨g2, 1, _, rfl, hb, hz, hnc, hcm, rfl, ?_⟩⟩
            simp [valCells]
          | cons a r =>
            exfalso
            have hr : r = [] := by
              have : (a :: r).length ≤ 1 := hnc
              cases r with
              | nil => rfl
              | cons _ _ => simp at this
            subst hr
            have he : a = u := by
              obtain ⟨a0, a1, a2⟩ := a
              obtain ⟨u0, u1, u2⟩ := u
              simp [valCells, cellsV] at htake
              obtain ⟨rfl, rfl, rfl⟩ := htake
              rfl
            have := hM a (by simp)
            rcases hu with hu | hu
            · exact this.1 (he.trans hu)
            · exact this.2 (he.trans hu)
        · exact ⟨h1, .inr ⟨g2, cap, cur, rfl, hb, hm.heap hg2 e, hnc, hcm, hcs, htake⟩⟩
  · exact own_grew ho h
theorem stepT_grew {S : Nat → Prop} {B0 : Nat} {z : Obj} {i : Nat} {w w' : World} (h6 : i ≠ 6) (h11 : i ≠ 11) (h : Grew w w') : stepT S B0 z i w w' := by
  unfold stepT
  rw [if_neg h6, if_neg h11]
  exact h
theorem told_buf {B B0 : Nat} {z : V3} {w w' : World} {p : Nat} {o : Option Nat} {l : List UInt8} {most e : Int} (h : BufAt B w p o l most e) (ht : Told B0 (rowV z) w w') : BufAt B w' p o l most e := by
  rcases ht with rfl | ⟨g, hg, hc, hm, _⟩
  · exact h
  · have hn : ¬ Own2 p o g := by
      rcases hc with hc | hc
      · exact h.not_row hc
      · exact h.not_row hc
    exact h.kept hm (fun e => hn (.inl e.symm)) (fun k hk e => hn (.inr (by rw [hk, e])))
theorem stepT_buf {S : Nat → Prop} {B B0 : Nat} {z : V3} {i : Nat} {w w' : World} {p : Nat} {o : Option Nat} {l : List UInt8} {most e : Int} (hi : i ≠ 6) (ht : stepT S B0 (rowV z) i w w') (h : BufAt B w p o l most e) : BufAt B w' p o l most e := by
  rcases stepT_cases ht with ⟨h6, _⟩ | ⟨_, h1⟩ | h1
  · exact absurd h6 hi
  · exact told_buf h h1
  · exact h.grew h1
theorem stepT_live {S : Nat → Prop} {B0 : Nat} {z : V3} {i : Nat} {w0 w w' : World} {p : Nat} {most : Int} {s : St} (hi : i ≠ 6) (hB : w0.heap.size ≤ B0) (ht : stepT S B0 (rowV z) i w w') (h : Live w0 w p most s) : Live w0 w' p most s := by
  obtain ⟨o, h1, h2, h3, h4⟩ := h
  refine ⟨o, stepT_buf hi ht h1, ?_, h3, h4⟩
  rcases stepT_cases ht with ⟨h6, _⟩ | ⟨_, ht⟩ | ht
  · exact absurd h6 hi
  · rcases ht with rfl | ⟨g, hg, _, hm, _⟩
    · exact h2
    · exact Below.trans h2 (hm.below h2.size (fun k hk => by omega))
  · exact Below.trans h2 (Below.mono ht h2.size)
theorem stepT_ptr {S : Nat → Prop} {B0 : Nat} {z : Obj} {i : Nat} {w w' : World} (ht : stepT S B0 z i w w') (hS : ∀ k, S k → k < B0) {g : Nat} (hg : B0 ≤ g) (h : w.heap[g]? = some Z0 ∨ w.heap[g]? = some z) : w'.heap[g]? = some Z0 ∨ w'.heap[g]? = some z := by
  have hn : ¬ S g := fun hs => by have := hS g hs; omega
  rcases stepT_cases ht with ⟨_, ht⟩ | ⟨_, ht⟩ | ht
  · exact h.imp (fun h => ht.heap h hn) (fun h => ht.heap h hn)
  · rcases ht with rfl | ⟨g', _, _, hm, hz⟩
    · exact h
    · by_cases e : g = g'
      · subst e; exact .inr hz
      · exact h.imp (fun h => hm.heap h e) (fun h => hm.heap h e)
  · exact h.imp (fun h => ht.heap h) (fun h => ht.heap h)
theorem stepT_done {S : Nat → Prop} {B0 : Nat} {z : Obj} {i : Nat} {w w' : World} (hi : i ≠ 11) (ht : stepT S B0 z i w w') (hS : ∀ k, S k → k < B0) {g : Nat} (hg : B0 ≤ g) (h : w.heap[g]? = some z) : w'.heap[g]? = some z := by
  have hn : ¬ S g := fun hs => by have := hS g hs; omega
  rcases stepT_cases ht with ⟨_, ht⟩ | ⟨h11, _⟩ | ht
  · exact ht.heap h hn
  · exact absurd h11 hi
  · exact ht.heap h
theorem Reach2.heap {S : Nat → Prop} {B0 : Nat} {w w' : World} (h : Reach2 S B0 w w') {k : Nat} {ob : Obj} (hk : w.heap[k]? = some ob) (hB : k < B0) (hS : ¬ S k) : w'.heap[k]? = some ob :=
  (h.block k (Array.getElem?_eq_some_iff.1 hk).1 hB hS).trans hk
end Go.Proofs.Ytajpbclcfjljnaa

/-
  Maps: the examples of the law.
-/
namespace Go.Proofs.Ytajpbclcfjljnaa
open Go Go.ChangeShapes Go.WideShapes Go.ChangeAt Go.RowKit Go.Joins
open Go.Proofs.Ytajpbclcfjljnaa.Ft (V3 vV okV ValsAt inlineB legalB packF codeF typedF allF)
set_option linter.unusedVariables false
set_option linter.unusedSimpArgs false

def stepM (S : Nat → Prop) (B0 : Nat) (z : Obj) (i : Nat) (w w' : World) : Prop := if i = 4 then Moved S w w' else if i = 9 then Told B0 z w w' else Grew w w'
theorem stepM_cases {S : Nat → Prop} {B0 : Nat} {z : Obj} {i : Nat} {w w' : World} (h : stepM S B0 z i w w') : (i = 4 ∧ Moved S w w') ∨ (i = 9 ∧ Told B0 z w w') ∨ Grew w w' := by
  unfold stepM at h
  split at h
  · exact .inl ⟨by assumption, h⟩
  · split at h
    · exact .inr (.inl ⟨by assumption, h⟩)
    · exact .inr (.inr h)
theorem stepM_reach {S : Nat → Prop} {B0 : Nat} {z : Obj} (i : Nat) (w w' : World) (h : stepM S B0 z i w w') : Reach2 S B0 w w' := by
  rcases stepM_cases h with ⟨_, h⟩ | ⟨_, h⟩ | h
  · exact Reach2.of_moved h
  · exact Reach2.of_told h
  · exact Reach2.of_moved (Moved.of_grew h)
theorem stepM_refl {S : Nat → Prop} {B0 : Nat} {z : Obj} (i : Nat) (w : World) : stepM S B0 z i w w := by
  unfold stepM
  split
  · exact Moved.refl _ _
  · split
    · exact .inl rfl
    · exact Grew.refl _
/-- A block of other content abides. -/
theorem stepM_heap {S : Nat → Prop} {B0 : Nat} {z : Obj} {i : Nat} {w w' : World} (h : stepM S B0 z i w w') {k : Nat} {ob : Obj} (hk : w.heap[k]? = some ob) (hS : ¬ S k) (h0 : ob ≠ Z0) (hz : ob ≠ z) : w'.heap[k]? = some ob := by
  rcases stepM_cases h with ⟨_, h⟩ | ⟨_, h⟩ | h
  · exact h.heap hk hS
  · rcases h with rfl | ⟨g, hg, hc, hm, _⟩
    · exact hk
    · refine hm.heap hk fun e => ?_
      subst e
      rw [hk] at hc
      rcases hc with hc | hc
      · exact h0 (by injection hc)
      · exact hz (by injection hc)
  · exact h.heap hk
theorem stepM_own {S : Nat → Prop} {B0 : Nat} {z : V3} {i : Nat} {w w' : World} (h : stepM S B0 (rowV z) i w w') (hS : ∀ k, S k → k < B0) {v : Value} {M : List V3} (ho : OwnVals w B0 v M) (hM : ∀ u ∈ M, u ≠ (0, 0, 0) ∧ u ≠ z) : OwnVals w' B0 v M := by
  rcases stepM_cases h with ⟨_, h⟩ | ⟨_, h⟩ | h
  · refine Moved.owns h ho fun k hk => ?_
    rcases ho.2 with ⟨rfl, _⟩ | ⟨g, cap, cur, rfl, hb, _⟩
    · cases hk
    · have : k = g := by injection hk with hk; exact hk.symm
      subst this
      intro hq
      have := hS k hq
      omega
  · rcases h with rfl | ⟨g, hg, hc, hm, hz⟩
    · exact ho
    · obtain ⟨h1, h2⟩ := ho
      rcases h2 with ⟨rfl, hn⟩ | ⟨g2, cap, cur, rfl, hb, hg2, hnc, hcm, hcs, htake⟩
      · exact ⟨h1, .inl ⟨rfl, hn⟩⟩
      · by_cases e : g2 = g
        · subst e
          have hone : ∃ u : V3, (u = (0, 0, 0) ∨ u = z) ∧ w.heap[g2]? = some (rowV u) := by
            rcases hc with hc | hc
            · exact ⟨_, .inl rfl, hc⟩
            · exact ⟨_, .inr rfl, hc⟩
          obtain ⟨u, hu, hcu⟩ := hone
          rw [hcu] at hg2
          injection hg2 with hg2
          injection hg2 with hcur _
          subst hcur
          have hcap : cap = 1 := by have : 3 = cap * 3 := hcs; omega
          subst hcap
          cases M with
          | nil =>
            refine ⟨h1, .inr ⟨g2, 1, _, rfl, hb, hz, hnc, hcm, rfl, ?_⟩⟩
            simp [valCells]
          | cons a r =>
            exfalso
            have hr : r = [] := by
              have : (a :: r).length ≤ 1 := hnc
              cases r with
              | nil => rfl
              | cons _ _ => simp at this
            subst hr
            have he : a = u := by
              obtain ⟨a0, a1, a2⟩ := a
              obtain ⟨u0, u1, u2⟩ := u
              simp [valCells, cellsV] at htake
              obtain ⟨rfl, rfl, rfl⟩ := htake
              rfl
            have := hM a (by simp)
            rcases hu with hu | hu
            · exact this.1 (he.trans hu)
            · exact this.2 (he.trans hu)
        · exact ⟨h1, .inr ⟨g2, cap, cur, rfl, hb, hm.heap hg2 e, hnc, hcm, hcs, htake⟩⟩
  · exact own_grew ho h
theorem stepM_grew {S : Nat → Prop} {B0 : Nat} {z : Obj} {i : Nat} {w w' : World} (h6 : i ≠ 4) (h11 : i ≠ 9) (h : Grew w w') : stepM S B0 z i w w' := by
  unfold stepM
  rw [if_neg h6, if_neg h11]
  exact h
theorem stepM_buf {S : Nat → Prop} {B B0 : Nat} {z : V3} {i : Nat} {w w' : World} {p : Nat} {o : Option Nat} {l : List UInt8} {most e : Int} (hi : i ≠ 4) (ht : stepM S B0 (rowV z) i w w') (h : BufAt B w p o l most e) : BufAt B w' p o l most e := by
  rcases stepM_cases ht with ⟨h6, _⟩ | ⟨_, h1⟩ | h1
  · exact absurd h6 hi
  · exact told_buf h h1
  · exact h.grew h1
theorem stepM_live {S : Nat → Prop} {B0 : Nat} {z : V3} {i : Nat} {w0 w w' : World} {p : Nat} {most : Int} {s : St} (hi : i ≠ 4) (hB : w0.heap.size ≤ B0) (ht : stepM S B0 (rowV z) i w w') (h : Live w0 w p most s) : Live w0 w' p most s := by
  obtain ⟨o, h1, h2, h3, h4⟩ := h
  refine ⟨o, stepM_buf hi ht h1, ?_, h3, h4⟩
  rcases stepM_cases ht with ⟨h6, _⟩ | ⟨_, ht⟩ | ht
  · exact absurd h6 hi
  · rcases ht with rfl | ⟨g, hg, _, hm, _⟩
    · exact h2
    · exact Below.trans h2 (hm.below h2.size (fun k hk => by omega))
  · exact Below.trans h2 (Below.mono ht h2.size)
theorem stepM_ptr {S : Nat → Prop} {B0 : Nat} {z : Obj} {i : Nat} {w w' : World} (ht : stepM S B0 z i w w') (hS : ∀ k, S k → k < B0) {g : Nat} (hg : B0 ≤ g) (h : w.heap[g]? = some Z0 ∨ w.heap[g]? = some z) : w'.heap[g]? = some Z0 ∨ w'.heap[g]? = some z := by
  have hn : ¬ S g := fun hs => by have := hS g hs; omega
  rcases stepM_cases ht with ⟨_, ht⟩ | ⟨_, ht⟩ | ht
  · exact h.imp (fun h => ht.heap h hn) (fun h => ht.heap h hn)
  · rcases ht with rfl | ⟨g', _, _, hm, hz⟩
    · exact h
    · by_cases e : g = g'
      · subst e; exact .inr hz
      · exact h.imp (fun h => hm.heap h e) (fun h => hm.heap h e)
  · exact h.imp (fun h => ht.heap h) (fun h => ht.heap h)
theorem stepM_done {S : Nat → Prop} {B0 : Nat} {z : Obj} {i : Nat} {w w' : World} (hi : i ≠ 9) (ht : stepM S B0 z i w w') (hS : ∀ k, S k → k < B0) {g : Nat} (hg : B0 ≤ g) (h : w.heap[g]? = some z) : w'.heap[g]? = some z := by
  have hn : ¬ S g := fun hs => by have := hS g hs; omega
  rcases stepM_cases ht with ⟨_, ht⟩ | ⟨h11, _⟩ | ht
  · exact ht.heap h hn
  · exact absurd h11 hi
  · exact ht.heap h
theorem reach_belowM {S : Nat → Prop} {w0 w4 w2 : World} (hG : Reach2 S w4.heap.size w4 w2) (hb : Below w0.heap.size w0 w4) (hS : ∀ k, S k → w0.heap.size ≤ k) : Below w0.heap.size w0 w2 :=
  Below.trans hb ⟨hG.os, hG.tape, hG.output, hG.size, fun k hk => hG.block k (Nat.lt_of_lt_of_le hk hb.size) (Nat.lt_of_lt_of_le hk hb.size) (fun hs => by have := hS k hs; omega)⟩
theorem told_rowM {w : World} {g : Nat} {z : V3} (h : w.heap[g]? = some Z0 ∨ w.heap[g]? = some (rowV z)) : ∃ a b c : Value, w.heap[g]? = some (.cells #[a, b, c] 30 (0, 0)) := by
  rcases h with h | h
  · exact ⟨_, _, _, h⟩
  · exact ⟨_, _, _, h⟩
theorem told_stepM {S : Nat → Prop} {B0 : Nat} {z : V3} {w : World} {g : Nat} {a b c : Value} (hg : B0 ≤ g) (hc : w.heap[g]? = some Z0 ∨ w.heap[g]? = some (rowV z)) (hrow : w.heap[g]? = some (.cells #[a, b, c] 30 (0, 0))) :
    stepM S B0 (rowV z) 9 w (((w.setCell ⟨g, 0, none⟩ (.int .i64 z.1)).setCell ⟨g, 1, none⟩ (.int .i64 z.2.1)).setCell ⟨g, 2, none⟩ (.int .u64 z.2.2)) := by
  refine .inr ⟨g, hg, hc, ?_, heap_store3 hrow _ _ _⟩
  exact Moved.setCell (S := fun k => k = g) (p := ⟨g, 2, none⟩) (Moved.setCell (S := fun k => k = g) (p := ⟨g, 1, none⟩) (Moved.setCell (S := fun k => k = g) (p := ⟨g, 0, none⟩) (Moved.refl _ w) (fun _ => rfl) _) (fun _ => rfl) _) (fun _ => rfl) _
theorem valsRow {w : World} {g c : Nat} {v : V3} (hg : w.heap[g]? = some (rowV v)) : ValsAt w (.slice (some ⟨g, 0, none⟩) 1 c) [v] := by
  refine ⟨_, c, rfl, fun i x hx => ?_⟩
  have hi : i = 0 := by have := (List.getElem?_eq_some_iff.1 hx).1; simp at this; omega
  subst hi
  simp at hx
  subst hx
  exact ⟨_, _, rfl, row_cell hg 0 _ rfl, row_cell hg 1 _ rfl, row_cell hg 2 _ rfl⟩
theorem mex1 : putF 100 (takesE 4) true false 14 0 [(4, 1, 0)] ([107, 0], 0) = (((14, 1, 3), 0), ([107, 0, 1, 3], 0)) := by kernel_rfl
theorem mex2 : putM 100 (14, 1, 3) [(1, 1, 5)] ([107, 0, 1, 3], 0) = (((9, 1, 7), 0), ([107, 0, 1, 3, 1, 1, 1, 5, 4], 0)) := by kernel_rfl
theorem mex3 : putM 100 (1, 1, 5) [] ([107, 0, 1, 3, 1, 1, 1, 5, 4], 0) = (((0, 0, 0), 60), ([107, 0, 1, 3, 1, 1, 1, 5, 4], 0)) := by kernel_rfl
theorem mex4 : putM 100 (14, 3, 3) [] ([107, 0, 1, 3, 1, 1, 1, 5, 4], 0) = (((0, 0, 0), 2), ([107, 0, 1, 3, 1, 1, 1, 5, 4], 0)) := by kernel_rfl
theorem mex5 : putM 100 (14, 1, 3) [(3, 0, 0)] ([107, 0, 1, 3, 1, 1, 1, 5, 4], 0) = (((0, 0, 0), 20), ([107, 0, 1, 3, 1, 1, 1, 5, 4], 0)) := by kernel_rfl
theorem mtyped : typedF 4 0 = (14, true) := by kernel_rfl
theorem okV1 (a b c : Int) (h0 : 0 ≤ c) (h1 : c ≤ 18446744073709551615) : ∀ v ∈ [((a, b, c) : V3)], okV v := by
  intro v hv
  simp at hv
  subst hv
  exact ⟨h0, h1⟩
/-- Keys is vec.Put. -/
theorem keysPut_any {B : Nat} {w : World} {p : Nat} {o : Option Nat} {most : Int} (s : St) (lv : Value) (l : List V3) (h : BufAt B w p o s.1 most s.2) (hB : B ≤ w.heap.size) (hl : (s.1.length : Int) ≤ most) (hm1 : most ≤ 1048576)
    (hv : ValsAt w lv l) (hlen : l.length ≤ 1048576) (hok : ∀ v ∈ l, okV v) (hap : ∀ ad n c, lv = .slice (some ad) n c → ad.block < w.heap.size ∧ ¬ Own2 p o ad.block) (hs : s.2 = 0) :
    Calls Try.prog 19 #[bptr p, lv] w fun r w' => r = .returned (putV (putF most (takesE 4) true false 14 0 l s).1) ∧ TurnB B w w' p o most (putF most (takesE 4) true false 14 0 l s).2 := by
  have HB := Lib.hid h
  have HV := Lib.hid hv
  have HA := Lib.hid hap
  obtain ⟨la, lc, rfl, hcell⟩ := hv
  clear h hap hcell
  generalize hq : putF most (takesE 4) true false 14 0 l s = q
  obtain ⟨⟨⟨q0, q1, q2⟩, qe⟩, sf⟩ := q
  have HQ := Lib.hid hq
  clear hq
  go_enter Try.func19, Try.ntmps19
  go_wp2_with fail
  have hg := (Grew.refl w).alloc (rowV (0, 0, 0))
  have hr := heap_alloc_new w (rowV (0, 0, 0))
  have hlt : w.heap.size < (w.alloc (rowV (0, 0, 0))).heap.size := by simp
  generalize (w.alloc (rowV (0, 0, 0))) = w1 at *
  have hb1 := HB.out.grew hg
  refine (put_ty0 4 14 mtyped (by decide) s _ l hb1 (Nat.le_trans hB hg.size) hl hm1 (HV.out.grew hg) hlen hok (fun ad n c e => ⟨Nat.lt_of_lt_of_le (HA.out ad n c e).1 hg.size, (HA.out ad n c e).2⟩) hs).mono ?_
  rw [HQ.out]
  rintro r w2 ⟨rfl, ht⟩
  rw [show putV (((q0, q1, q2), qe) : V3 × Int) = .tuple #[.agg #[.int .i64 q0, .int .i64 q1, .int .u64 q2], .int .i64 qe] from rfl]
  have hrow : w2.heap[w.heap.size]? = some (rowV (0, 0, 0)) := by
    obtain ⟨_, _, _, hm⟩ := ht
    exact hm.heap hr (hb1.not_row hr)
  have f0 := row_frozen hrow 0
  have f1 := row_frozen hrow 1
  have f2 := row_frozen hrow 2
  have c0 := row_cell hrow 0 _ rfl
  have c1 := row_cell hrow 1 _ rfl
  have c2 := row_cell hrow 2 _ rfl
  have HT : Hid (TurnB B w (((w2.setCell ⟨w.heap.size, 0, none⟩ (.int .i64 q0)).setCell ⟨w.heap.size, 1, none⟩ (.int .i64 q1)).setCell ⟨w.heap.size, 2, none⟩ (.int .u64 q2)) p o most sf) := by
    obtain ⟨o', b', n', m'⟩ := TurnB.after hg ht
    have hn : ¬ Own2 p o' w.heap.size := b'.not_row hrow
    have hm : Moved (fun k => k = w.heap.size) w2 (((w2.setCell ⟨w.heap.size, 0, none⟩ (.int .i64 q0)).setCell ⟨w.heap.size, 1, none⟩ (.int .i64 q1)).setCell ⟨w.heap.size, 2, none⟩ (.int .u64 q2)) :=
      Moved.setCell (S := fun k => k = w.heap.size) (p := ⟨w.heap.size, 2, none⟩) (Moved.setCell (S := fun k => k = w.heap.size) (p := ⟨w.heap.size, 1, none⟩) (Moved.setCell (S := fun k => k = w.heap.size) (p := ⟨w.heap.size, 0, none⟩) (Moved.refl _ w2) (fun _ => rfl) _) (fun _ => rfl) _) (fun _ => rfl) _
    exact ⟨o', b'.kept hm (fun e => hn (.inl e.symm)) (fun k e e2 => hn (.inr (by rw [e, e2]))), n', m'.trans hm fun j hj e => by omega⟩
  clear hrow ht hr hb1 hg hlt HB HV HA
  go_wp2
  exact bodyPost_ret (v := putV ((q0, q1, q2), qe)) (by simp [results, Try.results19, go_sem, c0, c1, c2, putV, vV]) rfl ⟨rfl, HT.out⟩
end Go.Proofs.Ytajpbclcfjljnaa

/-
  Maps: the examples of the law.
-/
namespace Go.Proofs.Ytajpbclcfjljnaa
open Go Go.ChangeShapes Go.WideShapes Go.ChangeAt Go.RowKit Go.Joins
open Go.Proofs.Ytajpbclcfjljnaa.Ft (V3 vV okV ValsAt inlineB legalB packF codeF typedF allF)
set_option linter.unusedVariables false
set_option linter.unusedSimpArgs false

set_option maxRecDepth 100000 in
set_option maxHeartbeats 8000000 in
theorem works18_any (w0 : World) : Calls Try.prog 15 #[] w0 fun r w' => r = .returned (.bool true) ∧ Grew w0 w' := by
  go_enter Try.func15, Try.ntmps15
  go_wp2_with fail
  refine (newL (w0 := w0) 100 (Below.refl _ _)).mono ?_
  rintro r w1 ⟨rfl, hl, _, _⟩
  rw [show roomOf 100 = 100 by decide] at hl
  have HL1 := Lib.hid hl
  clear hl
  go_wp2_with fail
  refine (textL1 ⟨#[107, 0]⟩ _ rfl (by decide) HL1.out).mono ?_
  rintro r w2 ⟨rfl, hl⟩
  rw [show putS 100 (bytesS [⟨#[107, 0]⟩]) ([], 0) = ([107, 0], 0) by kernel_rfl] at hl
  have HL2 := Lib.hid hl
  clear hl HL1
  go_wp2_with fail
  refine (key18_any 0 _).mono ?_
  rintro r w3 ⟨rfl, hg3⟩
  have HL3 := Lib.hid (HL2.out.grew hg3)
  clear hg3 HL2
  go_wp2_with fail
  have hga := (Grew.refl w3).alloc (rowV (4, 1, 0))
  have hra := heap_alloc_new w3 (rowV (4, 1, 0))
  obtain ⟨o1, b1, e1, q1, r1⟩ := HL3.out
  refine (keysPut_any ([107, 0], 0) _ [(4, 1, 0)] (b1.grew hga) (Nat.le_trans e1.size hga.size) q1 r1 (valsRow hra) (by decide) (okV1 _ _ _ (by decide) (by decide)) ?_ rfl).mono ?_
  · intro ad n' c' e
    cases e
    exact ⟨(Array.getElem?_eq_some_iff.1 hra).1, fun hq => absurd (b1.lt _ hq) (Nat.lt_irrefl _)⟩
  rw [mex1]
  rintro r w4a ⟨rfl, ht⟩
  have HL4 := Lib.hid (Live.turn (s' := ([107, 0, 1, 3], 0)) (b1.grew hga) (Below.trans e1 (Below.mono hga e1.size)) ht (by decide) r1)
  rw [show putV (((14, 1, 3), 0) : V3 × Int) = .tuple #[.agg #[.int .i64 14, .int .i64 1, .int .u64 3], .int .i64 0] from rfl]
  clear ht b1 e1 q1 r1 hga hra HL3
  go_wp2_with fail
  have hg4 := (Grew.refl w4a).alloc (rowV (14, 1, 3))
  have hr4 := heap_alloc_new w4a (rowV (14, 1, 3))
  have hlt4 := (Array.getElem?_eq_some_iff.1 hr4).1
  generalize (w4a.alloc (rowV (14, 1, 3))) = w4 at *
  have HR4 := Lib.hid hr4
  have HLT := Lib.hid hlt4
  obtain ⟨o, hb, hbel, h3, h4⟩ := (HL4.out.grew hg4)
  have HB := Lib.hid hb
  have HBEL := Lib.hid hbel
  have HS := Lib.hid (And.intro hb.lt hb.ge)
  have HNS : Hid (¬ Own2 w0.heap.size o w4a.heap.size) := hb.not_row HR4.out
  have HVN : Hid (rowV (1, 1, 5) ≠ Z0 ∧ rowV (1, 1, 5) ≠ rowV (9, 1, 7)) := ⟨fun e => by injection e with e; simp at e, fun e => by injection e with e; simp at e⟩
  obtain ⟨ga, hgaa⟩ : ∃ g, g = w4a.heap.size := ⟨_, rfl⟩
  clear hg4 hr4 hlt4 hb hbel h3 h4 HL4
  refine wp_region_tablesT (Reach2 (Own2 w0.heap.size o) w4.heap.size) 4 (fun w => BufAt w0.heap.size w w0.heap.size o [107, 0, 1, 3] 100 0) (stepM (Own2 w0.heap.size o) w4.heap.size (rowV (9, 1, 7))) [[], [], [], [2], [0, 1, 3], [4], [5], [5], [], [6, 8], [7]] [[(21, 1), (22, 2), (23, 3), (19, 5), (25, 6), (26, 7), (4, 8), (5, 10)], [(20, 0), (22, 2), (23, 3), (19, 5), (25, 6), (26, 7), (4, 8), (5, 10)], [(20, 0), (21, 1), (24, 4), (19, 5), (25, 6), (26, 7), (4, 8), (5, 10)], [(20, 0), (21, 1), (22, 2), (19, 5), (25, 6), (26, 7), (4, 8), (5, 10)], [(20, 0), (21, 1), (22, 2), (23, 3), (25, 6), (26, 7), (4, 8), (5, 10)], [(20, 0), (21, 1), (22, 2), (23, 3), (24, 4), (4, 8), (5, 10)], [(20, 0), (21, 1), (22, 2), (23, 3), (24, 4), (19, 5), (26, 7), (4, 8), (5, 10)], [(20, 0), (21, 1), (22, 2), (23, 3), (24, 4), (19, 5), (25, 6), (4, 8)], [(20, 0), (21, 1), (22, 2), (23, 3), (24, 4), (19, 5), (25, 6), (26, 7), (5, 10)], [(20, 0), (21, 1), (22, 2), (23, 3), (24, 4), (19, 5), (25, 6), (26, 7), (4, 8), (5, 10)], [(20, 0), (21, 1), (22, 2), (23, 3), (24, 4), (19, 5), (25, 6), (26, 7), (4, 8)]] [(20, 0), (21, 1), (22, 2), (23, 3), (24, 4), (19, 5), (25, 6), (26, 7), (4, 8), (5, 10)]
    [fun y v w => v = bptr w0.heap.size, fun y v w => v = .agg #[.int .i64 14, .int .i64 1, .int .u64 3], fun y v w => v = .agg #[.int .i64 1, .int .i64 1, .int .u64 5], fun y v w => ∃ g, v = .slice (some ⟨g, 0, none⟩) 1 1 ∧ w4.heap.size ≤ g ∧ w.heap[g]? = some (rowV (1, 1, 5)), fun y v w => v = .tuple #[.agg #[.int .i64 9, .int .i64 1, .int .u64 7], .int .i64 0] ∧ Live w0 w w0.heap.size 100 ([107, 0, 1, 3, 1, 1, 1, 5, 4], 0), fun y v w => v = .tuple #[.agg #[.int .i64 9, .int .i64 1, .int .u64 7], .int .i64 0], fun y v w => v = .agg #[.int .i64 9, .int .i64 1, .int .u64 7], fun y v w => v = .int .i64 0, fun y v w => ∃ g, v = .pointer (some ⟨g, 0, none⟩) ∧ w4.heap.size ≤ g ∧ (w.heap[g]? = some Z0 ∨ w.heap[g]? = some (rowV (9, 1, 7))), fun y v w => ∃ g, y 8 = .pointer (some ⟨g, 0, none⟩) ∧ w4.heap.size ≤ g ∧ w.heap[g]? = some (rowV (9, 1, 7)), fun y v w => v = .int .i64 0]
    (by kernel_rfl) Reach2.trans (Reach2.refl _ _) stepM_reach stepM_refl (fun i hi w w' ht h => stepM_buf hi ht h) (HB.out.grew (Grew.refl _).drew) (Reach2.of_moved (Moved.of_grew (Grew.refl _).drew)) (by kernel_rfl)
    ⟨fun _ _ _ _ _ _ _ h => h, fun _ _ _ _ _ _ _ h => h, fun _ _ _ _ _ _ _ h => h, fun i _ y v w w' ht h => h.elim fun g h => ⟨g, h.1, h.2.1, stepM_heap ht h.2.2 (fun hs => by have := HS.out.1 g hs; have := h.2.1; omega) HVN.out.1 HVN.out.2⟩, fun i hi y v w w' ht h => ⟨h.1, stepM_live hi HBEL.out.size ht h.2⟩, fun _ _ _ _ _ _ _ h => h, fun _ _ _ _ _ _ _ h => h, fun _ _ _ _ _ _ _ h => h, fun i _ y v w w' ht h => h.elim fun g h => ⟨g, h.1, h.2.1, stepM_ptr ht HS.out.1 h.2.1 h.2.2⟩, fun i hi y v w w' ht h => h.elim fun g h => ⟨g, h.1, h.2.1, stepM_done hi ht HS.out.1 h.2.1 h.2.2⟩, fun _ _ _ _ _ _ _ h => h, trivial⟩
    ⟨fun _ _ _ _ _ h => h, fun _ _ _ _ _ h => h, fun _ _ _ _ _ h => h, fun _ _ _ _ _ h => h, fun _ _ _ _ _ h => h, fun _ _ _ _ _ h => h, fun _ _ _ _ _ h => h, fun _ _ _ _ _ h => h, fun _ _ _ _ _ h => h, fun y y' v w hk h => h.elim fun g h => ⟨g, by rw [← hk 8 (by decide)]; exact h.1, h.2⟩, fun _ _ _ _ _ h => h, trivial⟩
    ⟨?_, ?_, ?_, ?_, ?_, ?_, ?_, ?_, ?_, ?_, ?_, trivial⟩ rfl ?_
  · intro y w2 hG hI hD K hK
    clear hI
    simp only [fillL, Act.put, List.setIfInBounds_toArray, List.set_cons_zero, List.set_cons_succ, List.getD_cons_zero, List.getD_cons_succ] at hK ⊢
    refine ite_yes (by rfl) ?_
    go_simp
    exact hK _ _ _ rfl (stepM_grew (by decide) (by decide) (Grew.refl _)) rfl
  · intro y w2 hG hI hD K hK
    clear hI
    simp only [fillL, Act.put, List.setIfInBounds_toArray, List.set_cons_zero, List.set_cons_succ, List.getD_cons_zero, List.getD_cons_succ] at hK ⊢
    refine ite_yes (by rfl) ?_
    have hr := hG.heap HR4.out HLT.out HNS.out
    have c0 := row_cell hr 0 _ rfl
    have c1 := row_cell hr 1 _ rfl
    have c2 := row_cell hr 2 _ rfl
    go_simp
    exact hK _ _ _ rfl (stepM_grew (by decide) (by decide) (Grew.refl _)) rfl
  · intro y w2 hG hI hD K hK
    clear hI
    simp only [fillL, Act.put, List.setIfInBounds_toArray, List.set_cons_zero, List.set_cons_succ, List.getD_cons_zero, List.getD_cons_succ] at hK ⊢
    refine ite_yes (by rfl) ?_
    go_simp
    refine (num18_any 5 1 _).mono ?_
    rintro r w3' ⟨rfl, hg⟩
    exact hK _ _ _ rfl (stepM_grew (by decide) (by decide) hg) rfl
  · intro y w2 hG hI hD K hK
    simp only [depsT, List.getD_cons_zero, List.getD_cons_succ, and_true] at hD
    have h2 := hD
    clear hD
    clear hI
    simp only [fillL, Act.put, List.setIfInBounds_toArray, List.set_cons_zero, List.set_cons_succ, List.getD_cons_zero, List.getD_cons_succ] at hK ⊢
    rw [h2] at hK ⊢
    clear h2
    refine ite_yes (by rfl) ?_
    go_simp
    exact hK _ _ _ rfl (stepM_grew (by decide) (by decide) ((Grew.refl _).alloc _)) ⟨_, rfl, hG.size, heap_alloc_new _ _⟩
  · intro y w2 hG hI hD K hK
    simp only [depsT, List.getD_cons_zero, List.getD_cons_succ, and_true] at hD
    have h0 := hD.1
    have h1 := hD.2.1
    have h3 := hD.2.2
    clear hD
    simp only [fillL, Act.put, List.setIfInBounds_toArray, List.set_cons_zero, List.set_cons_succ, List.getD_cons_zero, List.getD_cons_succ] at hK ⊢
    rw [h0, h1] at hK ⊢
    clear h0 h1
    refine ite_yes (by rfl) ?_
    refine Exists.elim h3 fun g h => ?_
    have hs := h.1
    have hgB := h.2.1
    have hgr := h.2.2
    clear h
    rw [hs] at hK ⊢
    go_simp
    refine (put_map ([107, 0, 1, 3], 0) (14, 1, 3) _ [(1, 1, 5)] (hI rfl) (Nat.le_trans HBEL.out.size hG.size) (by decide) (by decide) (valsRow hgr) (fun c e => by cases e) (by decide) (okV1 _ _ _ (by decide) (by decide)) ⟨by decide, by decide⟩ ?_ rfl).mono ?_
    · intro ad n' c' e
      cases e
      exact ⟨(Array.getElem?_eq_some_iff.1 hgr).1, fun hq => absurd (HS.out.1 _ hq) (Nat.not_lt.2 hgB)⟩
    rw [mex2]
    rintro r w3' ⟨rfl, ht⟩
    have hbb : Below w0.heap.size w0 w2 := reach_belowM hG HBEL.out HS.out.2
    have hlv := Live.turn (s := ([107, 0, 1, 3], 0)) (s' := ([107, 0, 1, 3, 1, 1, 1, 5, 4], 0)) (hI rfl) hbb ht (by decide) (by decide)
    obtain ⟨_, _, _, hm⟩ := ht
    exact hK _ _ _ rfl hm ⟨rfl, hlv⟩
  · intro y w2 hG hI hD K hK
    simp only [depsT, List.getD_cons_zero, List.getD_cons_succ, and_true] at hD
    have h4 := hD
    replace h4 := h4.1
    clear hD
    clear hI
    simp only [fillL, Act.put, List.setIfInBounds_toArray, List.set_cons_zero, List.set_cons_succ, List.getD_cons_zero, List.getD_cons_succ] at hK ⊢
    rw [h4] at hK ⊢
    clear h4
    refine ite_yes (by rfl) ?_
    go_simp
    exact hK _ _ _ rfl (stepM_grew (by decide) (by decide) (Grew.refl _)) rfl
  · intro y w2 hG hI hD K hK
    simp only [depsT, List.getD_cons_zero, List.getD_cons_succ, and_true] at hD
    have h5 := hD
    clear hD
    clear hI
    simp only [fillL, Act.put, List.setIfInBounds_toArray, List.set_cons_zero, List.set_cons_succ, List.getD_cons_zero, List.getD_cons_succ] at hK ⊢
    rw [h5] at hK ⊢
    clear h5
    refine ite_yes (by rfl) ?_
    go_simp
    exact hK _ _ _ rfl (stepM_grew (by decide) (by decide) (Grew.refl _)) rfl
  · intro y w2 hG hI hD K hK
    simp only [depsT, List.getD_cons_zero, List.getD_cons_succ, and_true] at hD
    have h5 := hD
    clear hD
    clear hI
    simp only [fillL, Act.put, List.setIfInBounds_toArray, List.set_cons_zero, List.set_cons_succ, List.getD_cons_zero, List.getD_cons_succ] at hK ⊢
    rw [h5] at hK ⊢
    clear h5
    refine ite_yes (by rfl) ?_
    go_simp
    exact hK _ _ _ rfl (stepM_grew (by decide) (by decide) (Grew.refl _)) rfl
  · intro y w2 hG hI hD K hK
    clear hI
    simp only [fillL, Act.put, List.setIfInBounds_toArray, List.set_cons_zero, List.set_cons_succ, List.getD_cons_zero, List.getD_cons_succ] at hK ⊢
    refine ite_yes (by rfl) ?_
    go_simp
    exact hK _ _ _ rfl (stepM_grew (by decide) (by decide) ((Grew.refl _).alloc _)) ⟨_, rfl, hG.size, .inl (heap_alloc_new _ _)⟩
  · intro y w2 hG hI hD K hK
    simp only [depsT, List.getD_cons_zero, List.getD_cons_succ, and_true] at hD
    have h6 := hD.1
    have h8 := hD.2
    clear hD
    clear hI
    simp only [fillL, Act.put, List.setIfInBounds_toArray, List.set_cons_zero, List.set_cons_succ, List.getD_cons_zero, List.getD_cons_succ] at hK ⊢
    rw [h6] at hK ⊢
    clear h6
    refine ite_yes (by rfl) ?_
    refine Exists.elim h8 fun g h => ?_
    have hs := h.1
    refine Exists.elim (told_rowM h.2.2) fun c0' h' => Exists.elim h' fun c1' h' => Exists.elim h' fun c2' hrow => ?_
    have f0 := row_frozen hrow 0
    have f1 := row_frozen hrow 1
    have f2 := row_frozen hrow 2
    have c0 := row_cell hrow 0 _ rfl
    have c1 := row_cell hrow 1 _ rfl
    have c2 := row_cell hrow 2 _ rfl
    rw [hs] at hK ⊢
    go_simp
    refine hK _ undef _ rfl (told_stepM h.2.1 h.2.2 hrow) ⟨g, rfl, h.2.1, heap_store3 hrow _ _ _⟩
  · intro y w2 hG hI hD K hK
    simp only [depsT, List.getD_cons_zero, List.getD_cons_succ, and_true] at hD
    have h7 := hD
    clear hD
    clear hI
    simp only [fillL, Act.put, List.setIfInBounds_toArray, List.set_cons_zero, List.set_cons_succ, List.getD_cons_zero, List.getD_cons_succ] at hK ⊢
    rw [h7] at hK ⊢
    clear h7
    refine ite_yes (by rfl) ?_
    go_simp
    exact hK _ _ _ rfl (stepM_grew (by decide) (by decide) (Grew.refl _)) rfl
  · intro y w2 hG hF
    simp only [factsT, and_true, Nat.reduceAdd] at hF
    have h0 := hF.1
    have h1 := hF.2.1
    have h2 := hF.2.2.1
    have h3 := hF.2.2.2.1
    have h4 := hF.2.2.2.2.1
    have h5 := hF.2.2.2.2.2.1
    have h6 := hF.2.2.2.2.2.2.1
    have h7 := hF.2.2.2.2.2.2.2.1
    have h8 := hF.2.2.2.2.2.2.2.2.1
    have h9 := hF.2.2.2.2.2.2.2.2.2.1
    have h10 := hF.2.2.2.2.2.2.2.2.2.2
    clear hF
    simp only [fillL, Act.put, List.setIfInBounds_toArray, List.set_cons_zero, List.set_cons_succ, List.getD_cons_zero, List.getD_cons_succ]
    have HLV := Lib.hid h4.2
    replace h4 := h4.1
    obtain ⟨g2, hg2, hgB, hgz⟩ := h9
    rw [h0, h1, h2, h4, h5, h6, h7, hg2, h10]
    have HRA := Lib.hid (hG.heap HR4.out HLT.out HNS.out)
    have HRB := Lib.hid hgz
    clear h0 h1 h2 h3 h4 h5 h6 h7 h8 h10 hg2 hgz hG
    rw [← hgaa] at HRA ⊢
    clear hgaa HR4 HLT HNS HB HBEL HS HVN
    go_wp2_with fail
    refine (bytesL HLV.out).mono ?_
    rintro r w5 ⟨vb, rfl, hvb, _, hg5⟩
    replace hvb : BytesAt w5 vb [107, 0, 1, 3, 1, 1, 1, 5, 4] := hvb
    have HVB := Lib.hid hvb
    have hra := hg5.heap HRA.out
    have hrb := hg5.heap HRB.out
    have HRA5 := Lib.hid hra
    have HRB5 := Lib.hid hrb
    have c0 := row_cell hra 0 _ rfl
    have c1 := row_cell hra 1 _ rfl
    have c2 := row_cell hra 2 _ rfl
    have d0 := row_cell hrb 0 _ rfl
    have d1 := row_cell hrb 1 _ rfl
    have d2 := row_cell hrb 2 _ rfl
    have HL5 := Lib.hid (HLV.out.grew hg5)
    clear hvb hg5 hra hrb HRA HRB HLV
    go_wp2_with fail
    refine wp_region_tables Grew [[], [], [0, 1], [2], [3], [3, 4], [3, 5], [6], [7], [7], [7, 8, 9], [7, 10], [11], [12], [12, 13], [12, 14], [15], [16], [16, 17], [16, 18], [16, 19], [20], [21], [21, 22], [21, 23]] [[(33, 1), (35, 3), (36, 4), (37, 5), (38, 6), (39, 7), (40, 8), (41, 9), (42, 10), (43, 11), (44, 12), (45, 13), (46, 14), (47, 15), (48, 16), (49, 17), (50, 18), (51, 19), (52, 20), (53, 21), (54, 22), (55, 23), (56, 24)], [(32, 0), (35, 3), (36, 4), (37, 5), (38, 6), (39, 7), (40, 8), (41, 9), (42, 10), (43, 11), (44, 12), (45, 13), (46, 14), (47, 15), (48, 16), (49, 17), (50, 18), (51, 19), (52, 20), (53, 21), (54, 22), (55, 23), (56, 24)], [(32, 0), (33, 1), (36, 4), (37, 5), (38, 6), (39, 7), (40, 8), (41, 9), (42, 10), (43, 11), (44, 12), (45, 13), (46, 14), (47, 15), (48, 16), (49, 17), (50, 18), (51, 19), (52, 20), (53, 21), (54, 22), (55, 23), (56, 24)], [(32, 0), (33, 1), (34, 2), (39, 7), (40, 8), (41, 9), (42, 10), (43, 11), (44, 12), (45, 13), (46, 14), (47, 15), (48, 16), (49, 17), (50, 18), (51, 19), (52, 20), (53, 21), (54, 22), (55, 23), (56, 24)], [(32, 0), (33, 1), (34, 2), (35, 3), (38, 6), (39, 7), (40, 8), (41, 9), (42, 10), (43, 11), (44, 12), (45, 13), (46, 14), (47, 15), (48, 16), (49, 17), (50, 18), (51, 19), (52, 20), (53, 21), (54, 22), (55, 23), (56, 24)], [(32, 0), (33, 1), (34, 2), (35, 3), (36, 4), (39, 7), (40, 8), (41, 9), (42, 10), (43, 11), (44, 12), (45, 13), (46, 14), (47, 15), (48, 16), (49, 17), (50, 18), (51, 19), (52, 20), (53, 21), (54, 22), (55, 23), (56, 24)], [(32, 0), (33, 1), (34, 2), (35, 3), (36, 4), (37, 5), (40, 8), (41, 9), (42, 10), (43, 11), (44, 12), (45, 13), (46, 14), (47, 15), (48, 16), (49, 17), (50, 18), (51, 19), (52, 20), (53, 21), (54, 22), (55, 23), (56, 24)], [(32, 0), (33, 1), (34, 2), (35, 3), (36, 4), (37, 5), (38, 6), (44, 12), (45, 13), (46, 14), (47, 15), (48, 16), (49, 17), (50, 18), (51, 19), (52, 20), (53, 21), (54, 22), (55, 23), (56, 24)], [(32, 0), (33, 1), (34, 2), (35, 3), (36, 4), (37, 5), (38, 6), (39, 7), (41, 9), (43, 11), (44, 12), (45, 13), (46, 14), (47, 15), (48, 16), (49, 17), (50, 18), (51, 19), (52, 20), (53, 21), (54, 22), (55, 23), (56, 24)], [(32, 0), (33, 1), (34, 2), (35, 3), (36, 4), (37, 5), (38, 6), (39, 7), (40, 8), (43, 11), (44, 12), (45, 13), (46, 14), (47, 15), (48, 16), (49, 17), (50, 18), (51, 19), (52, 20), (53, 21), (54, 22), (55, 23), (56, 24)], [(32, 0), (33, 1), (34, 2), (35, 3), (36, 4), (37, 5), (38, 6), (39, 7), (40, 8), (41, 9), (44, 12), (45, 13), (46, 14), (47, 15), (48, 16), (49, 17), (50, 18), (51, 19), (52, 20), (53, 21), (54, 22), (55, 23), (56, 24)], [(32, 0), (33, 1), (34, 2), (35, 3), (36, 4), (37, 5), (38, 6), (39, 7), (40, 8), (41, 9), (42, 10), (45, 13), (46, 14), (47, 15), (48, 16), (49, 17), (50, 18), (51, 19), (52, 20), (53, 21), (54, 22), (55, 23), (56, 24)], [(32, 0), (33, 1), (34, 2), (35, 3), (36, 4), (37, 5), (38, 6), (39, 7), (40, 8), (41, 9), (42, 10), (43, 11), (48, 16), (49, 17), (50, 18), (51, 19), (52, 20), (53, 21), (54, 22), (55, 23), (56, 24)], [(32, 0), (33, 1), (34, 2), (35, 3), (36, 4), (37, 5), (38, 6), (39, 7), (40, 8), (41, 9), (42, 10), (43, 11), (44, 12), (47, 15), (48, 16), (49, 17), (50, 18), (51, 19), (52, 20), (53, 21), (54, 22), (55, 23), (56, 24)], [(32, 0), (33, 1), (34, 2), (35, 3), (36, 4), (37, 5), (38, 6), (39, 7), (40, 8), (41, 9), (42, 10), (43, 11), (44, 12), (45, 13), (48, 16), (49, 17), (50, 18), (51, 19), (52, 20), (53, 21), (54, 22), (55, 23), (56, 24)], [(32, 0), (33, 1), (34, 2), (35, 3), (36, 4), (37, 5), (38, 6), (39, 7), (40, 8), (41, 9), (42, 10), (43, 11), (44, 12), (45, 13), (46, 14), (49, 17), (50, 18), (51, 19), (52, 20), (53, 21), (54, 22), (55, 23), (56, 24)], [(32, 0), (33, 1), (34, 2), (35, 3), (36, 4), (37, 5), (38, 6), (39, 7), (40, 8), (41, 9), (42, 10), (43, 11), (44, 12), (45, 13), (46, 14), (47, 15), (53, 21), (54, 22), (55, 23), (56, 24)], [(32, 0), (33, 1), (34, 2), (35, 3), (36, 4), (37, 5), (38, 6), (39, 7), (40, 8), (41, 9), (42, 10), (43, 11), (44, 12), (45, 13), (46, 14), (47, 15), (48, 16), (51, 19), (52, 20), (53, 21), (54, 22), (55, 23), (56, 24)], [(32, 0), (33, 1), (34, 2), (35, 3), (36, 4), (37, 5), (38, 6), (39, 7), (40, 8), (41, 9), (42, 10), (43, 11), (44, 12), (45, 13), (46, 14), (47, 15), (48, 16), (49, 17), (52, 20), (53, 21), (54, 22), (55, 23), (56, 24)], [(32, 0), (33, 1), (34, 2), (35, 3), (36, 4), (37, 5), (38, 6), (39, 7), (40, 8), (41, 9), (42, 10), (43, 11), (44, 12), (45, 13), (46, 14), (47, 15), (48, 16), (49, 17), (50, 18), (53, 21), (54, 22), (55, 23), (56, 24)], [(32, 0), (33, 1), (34, 2), (35, 3), (36, 4), (37, 5), (38, 6), (39, 7), (40, 8), (41, 9), (42, 10), (43, 11), (44, 12), (45, 13), (46, 14), (47, 15), (48, 16), (49, 17), (50, 18), (51, 19), (54, 22), (55, 23), (56, 24)], [(32, 0), (33, 1), (34, 2), (35, 3), (36, 4), (37, 5), (38, 6), (39, 7), (40, 8), (41, 9), (42, 10), (43, 11), (44, 12), (45, 13), (46, 14), (47, 15), (48, 16), (49, 17), (50, 18), (51, 19), (52, 20)], [(32, 0), (33, 1), (34, 2), (35, 3), (36, 4), (37, 5), (38, 6), (39, 7), (40, 8), (41, 9), (42, 10), (43, 11), (44, 12), (45, 13), (46, 14), (47, 15), (48, 16), (49, 17), (50, 18), (51, 19), (52, 20), (53, 21), (56, 24)], [(32, 0), (33, 1), (34, 2), (35, 3), (36, 4), (37, 5), (38, 6), (39, 7), (40, 8), (41, 9), (42, 10), (43, 11), (44, 12), (45, 13), (46, 14), (47, 15), (48, 16), (49, 17), (50, 18), (51, 19), (52, 20), (53, 21), (54, 22)], [(32, 0), (33, 1), (34, 2), (35, 3), (36, 4), (37, 5), (38, 6), (39, 7), (40, 8), (41, 9), (42, 10), (43, 11), (44, 12), (45, 13), (46, 14), (47, 15), (48, 16), (49, 17), (50, 18), (51, 19), (52, 20), (53, 21), (54, 22), (55, 23)]] [(32, 0), (33, 1), (34, 2), (35, 3), (36, 4), (37, 5), (38, 6), (39, 7), (40, 8), (41, 9), (42, 10), (43, 11), (44, 12), (45, 13), (46, 14), (47, 15), (48, 16), (49, 17), (50, 18), (51, 19), (52, 20), (53, 21), (54, 22), (55, 23), (56, 24)]
      [Is (.agg #[.int .i64 14, .int .i64 1, .int .u64 3]), Is (.agg #[.int .i64 14, .int .i64 1, .int .u64 3]), Is (.bool false), Is (.bool false), Is (.int .i64 0), Is (.bool false), Is (.bool false), Is (.bool false), Is (.agg #[.int .i64 9, .int .i64 1, .int .u64 7]), Is (.agg #[.int .i64 9, .int .i64 1, .int .u64 7]), Is (.bool false), Is (.bool false), Is (.bool false), Is (.int .i64 0), Is (.bool false), Is (.bool false), Is (.bool false), Is (vb), Is (.string ⟨#[107, 0, 1, 3, 1, 1, 1, 5, 4]⟩), Is (.bool false), Is (.bool false), Is (.bool false), Is (.int .i64 0), Is (.bool false), Is (.bool false)]
      (by kernel_rfl) Grew.trans Grew.refl (Grew.refl _).drew (by kernel_rfl) ⟨is_st, is_st, is_st, is_st, is_st, is_st, is_st, is_st, is_st, is_st, is_st, is_st, is_st, is_st, is_st, is_st, is_st, is_st, is_st, is_st, is_st, is_st, is_st, is_st, is_st, trivial⟩ ⟨?_, ?_, ?_, ?_, ?_, ?_, ?_, ?_, ?_, ?_, ?_, ?_, ?_, ?_, ?_, ?_, ?_, ?_, ?_, ?_, ?_, ?_, ?_, ?_, ?_, trivial⟩ rfl ?_
    · intro y w2 hG hD K hK
      have dc0 := hG.cell c0
      have dc1 := hG.cell c1
      have dc2 := hG.cell c2
      have dd0 := hG.cell d0
      have dd1 := hG.cell d1
      have dd2 := hG.cell d2
      simp only [fillL, Act.put, List.setIfInBounds_toArray, List.set_cons_zero, List.set_cons_succ, List.getD_cons_zero, List.getD_cons_succ, Is] at hK ⊢
      refine ite_yes (by rfl) ?_
      go_simp
      exact hK _ _ _ rfl (Grew.refl _) rfl
    · intro y w2 hG hD K hK
      simp only [fillL, Act.put, List.setIfInBounds_toArray, List.set_cons_zero, List.set_cons_succ, List.getD_cons_zero, List.getD_cons_succ, Is] at hK ⊢
      refine ite_yes (by rfl) ?_
      go_simp
      refine (keys18_any 3 1 _).mono ?_
      rintro r w3' ⟨rfl, hg⟩
      exact hK _ _ _ rfl hg rfl
    · intro y w2 hG hD K hK
      simp only [depsH, List.getD_cons_zero, List.getD_cons_succ, Is, and_true] at hD
      have h0 := hD.1
      have h1 := hD.2
      clear hD
      simp only [fillL, Act.put, List.setIfInBounds_toArray, List.set_cons_zero, List.set_cons_succ, List.getD_cons_zero, List.getD_cons_succ, Is] at hK ⊢
      rw [h0, h1] at hK ⊢
      clear h0 h1
      refine ite_yes (by rfl) ?_
      go_simp
      exact hK _ _ _ rfl (Grew.refl _) rfl
    · intro y w2 hG hD K hK
      simp only [depsH, List.getD_cons_zero, List.getD_cons_succ, Is, and_true] at hD
      have h2 := hD
      clear hD
      simp only [fillL, Act.put, List.setIfInBounds_toArray, List.set_cons_zero, List.set_cons_succ, List.getD_cons_zero, List.getD_cons_succ, Is] at hK ⊢
      rw [h2] at hK ⊢
      clear h2
      refine ite_yes (by rfl) ?_
      go_simp
      exact hK _ _ _ rfl (Grew.refl _) rfl
    · intro y w2 hG hD K hK
      simp only [depsH, List.getD_cons_zero, List.getD_cons_succ, Is, and_true] at hD
      have h3 := hD
      clear hD
      simp only [fillL, Act.put, List.setIfInBounds_toArray, List.set_cons_zero, List.set_cons_succ, List.getD_cons_zero, List.getD_cons_succ, Is] at hK ⊢
      rw [h3] at hK ⊢
      clear h3
      refine ite_yes (by rfl) ?_
      go_simp
      exact hK _ _ _ rfl (Grew.refl _) rfl
    · intro y w2 hG hD K hK
      simp only [depsH, List.getD_cons_zero, List.getD_cons_succ, Is, and_true] at hD
      have h3 := hD.1
      have h4 := hD.2
      clear hD
      simp only [fillL, Act.put, List.setIfInBounds_toArray, List.set_cons_zero, List.set_cons_succ, List.getD_cons_zero, List.getD_cons_succ, Is] at hK ⊢
      rw [h3, h4] at hK ⊢
      clear h3 h4
      refine ite_yes (by rfl) ?_
      go_simp
      exact hK _ _ _ rfl (Grew.refl _) rfl
    · intro y w2 hG hD K hK
      simp only [depsH, List.getD_cons_zero, List.getD_cons_succ, Is, and_true] at hD
      have h3 := hD.1
      have h5 := hD.2
      clear hD
      simp only [fillL, Act.put, List.setIfInBounds_toArray, List.set_cons_zero, List.set_cons_succ, List.getD_cons_zero, List.getD_cons_succ, Is] at hK ⊢
      rw [h3, h5] at hK ⊢
      clear h3 h5
      refine ite_yes (by rfl) ?_
      go_simp
      exact hK _ _ _ rfl (Grew.refl _) rfl
    · intro y w2 hG hD K hK
      simp only [depsH, List.getD_cons_zero, List.getD_cons_succ, Is, and_true] at hD
      have h6 := hD
      clear hD
      simp only [fillL, Act.put, List.setIfInBounds_toArray, List.set_cons_zero, List.set_cons_succ, List.getD_cons_zero, List.getD_cons_succ, Is] at hK ⊢
      rw [h6] at hK ⊢
      clear h6
      refine ite_yes (by rfl) ?_
      go_simp
      exact hK _ _ _ rfl (Grew.refl _) rfl
    · intro y w2 hG hD K hK
      simp only [depsH, List.getD_cons_zero, List.getD_cons_succ, Is, and_true] at hD
      have h7 := hD
      clear hD
      have dc0 := hG.cell c0
      have dc1 := hG.cell c1
      have dc2 := hG.cell c2
      have dd0 := hG.cell d0
      have dd1 := hG.cell d1
      have dd2 := hG.cell d2
      simp only [fillL, Act.put, List.setIfInBounds_toArray, List.set_cons_zero, List.set_cons_succ, List.getD_cons_zero, List.getD_cons_succ, Is] at hK ⊢
      rw [h7] at hK ⊢
      clear h7
      refine ite_yes (by rfl) ?_
      go_simp
      exact hK _ _ _ rfl (Grew.refl _) rfl
    · intro y w2 hG hD K hK
      simp only [depsH, List.getD_cons_zero, List.getD_cons_succ, Is, and_true] at hD
      have h7 := hD
      clear hD
      simp only [fillL, Act.put, List.setIfInBounds_toArray, List.set_cons_zero, List.set_cons_succ, List.getD_cons_zero, List.getD_cons_succ, Is] at hK ⊢
      rw [h7] at hK ⊢
      clear h7
      refine ite_yes (by rfl) ?_
      go_simp
      exact hK _ _ _ rfl (Grew.refl _) rfl
    · intro y w2 hG hD K hK
      simp only [depsH, List.getD_cons_zero, List.getD_cons_succ, Is, and_true] at hD
      have h7 := hD.1
      have h8 := hD.2.1
      have h9 := hD.2.2
      clear hD
      simp only [fillL, Act.put, List.setIfInBounds_toArray, List.set_cons_zero, List.set_cons_succ, List.getD_cons_zero, List.getD_cons_succ, Is] at hK ⊢
      rw [h7, h8, h9] at hK ⊢
      clear h7 h8 h9
      refine ite_yes (by rfl) ?_
      go_simp
      exact hK _ _ _ rfl (Grew.refl _) rfl
    · intro y w2 hG hD K hK
      simp only [depsH, List.getD_cons_zero, List.getD_cons_succ, Is, and_true] at hD
      have h7 := hD.1
      have h10 := hD.2
      clear hD
      simp only [fillL, Act.put, List.setIfInBounds_toArray, List.set_cons_zero, List.set_cons_succ, List.getD_cons_zero, List.getD_cons_succ, Is] at hK ⊢
      rw [h7, h10] at hK ⊢
      clear h7 h10
      refine ite_yes (by rfl) ?_
      go_simp
      exact hK _ _ _ rfl (Grew.refl _) rfl
    · intro y w2 hG hD K hK
      simp only [depsH, List.getD_cons_zero, List.getD_cons_succ, Is, and_true] at hD
      have h11 := hD
      clear hD
      simp only [fillL, Act.put, List.setIfInBounds_toArray, List.set_cons_zero, List.set_cons_succ, List.getD_cons_zero, List.getD_cons_succ, Is] at hK ⊢
      rw [h11] at hK ⊢
      clear h11
      refine ite_yes (by rfl) ?_
      go_simp
      exact hK _ _ _ rfl (Grew.refl _) rfl
    · intro y w2 hG hD K hK
      simp only [depsH, List.getD_cons_zero, List.getD_cons_succ, Is, and_true] at hD
      have h12 := hD
      clear hD
      simp only [fillL, Act.put, List.setIfInBounds_toArray, List.set_cons_zero, List.set_cons_succ, List.getD_cons_zero, List.getD_cons_succ, Is] at hK ⊢
      rw [h12] at hK ⊢
      clear h12
      refine ite_yes (by rfl) ?_
      go_simp
      exact hK _ _ _ rfl (Grew.refl _) rfl
    · intro y w2 hG hD K hK
      simp only [depsH, List.getD_cons_zero, List.getD_cons_succ, Is, and_true] at hD
      have h12 := hD.1
      have h13 := hD.2
      clear hD
      simp only [fillL, Act.put, List.setIfInBounds_toArray, List.set_cons_zero, List.set_cons_succ, List.getD_cons_zero, List.getD_cons_succ, Is] at hK ⊢
      rw [h12, h13] at hK ⊢
      clear h12 h13
      refine ite_yes (by rfl) ?_
      go_simp
      exact hK _ _ _ rfl (Grew.refl _) rfl
    · intro y w2 hG hD K hK
      simp only [depsH, List.getD_cons_zero, List.getD_cons_succ, Is, and_true] at hD
      have h12 := hD.1
      have h14 := hD.2
      clear hD
      simp only [fillL, Act.put, List.setIfInBounds_toArray, List.set_cons_zero, List.set_cons_succ, List.getD_cons_zero, List.getD_cons_succ, Is] at hK ⊢
      rw [h12, h14] at hK ⊢
      clear h12 h14
      refine ite_yes (by rfl) ?_
      go_simp
      exact hK _ _ _ rfl (Grew.refl _) rfl
    · intro y w2 hG hD K hK
      simp only [depsH, List.getD_cons_zero, List.getD_cons_succ, Is, and_true] at hD
      have h15 := hD
      clear hD
      simp only [fillL, Act.put, List.setIfInBounds_toArray, List.set_cons_zero, List.set_cons_succ, List.getD_cons_zero, List.getD_cons_succ, Is] at hK ⊢
      rw [h15] at hK ⊢
      clear h15
      refine ite_yes (by rfl) ?_
      go_simp
      exact hK _ _ _ rfl (Grew.refl _) rfl
    · intro y w2 hG hD K hK
      simp only [depsH, List.getD_cons_zero, List.getD_cons_succ, Is, and_true] at hD
      have h16 := hD
      clear hD
      simp only [fillL, Act.put, List.setIfInBounds_toArray, List.set_cons_zero, List.set_cons_succ, List.getD_cons_zero, List.getD_cons_succ, Is] at hK ⊢
      rw [h16] at hK ⊢
      clear h16
      refine ite_yes (by rfl) ?_
      go_simp
      exact hK _ _ _ rfl (Grew.refl _) rfl
    · intro y w2 hG hD K hK
      simp only [depsH, List.getD_cons_zero, List.getD_cons_succ, Is, and_true] at hD
      have h16 := hD.1
      have h17 := hD.2
      clear hD
      simp only [fillL, Act.put, List.setIfInBounds_toArray, List.set_cons_zero, List.set_cons_succ, List.getD_cons_zero, List.getD_cons_succ, Is] at hK ⊢
      rw [h16, h17] at hK ⊢
      clear h16 h17
      refine ite_yes (by rfl) ?_
      have hst := str_of_bytes (BytesAt.grew HVB.out hG)
      go_simp
      exact hK _ _ _ rfl (Grew.refl _) rfl
    · intro y w2 hG hD K hK
      simp only [depsH, List.getD_cons_zero, List.getD_cons_succ, Is, and_true] at hD
      have h16 := hD.1
      have h18 := hD.2
      clear hD
      simp only [fillL, Act.put, List.setIfInBounds_toArray, List.set_cons_zero, List.set_cons_succ, List.getD_cons_zero, List.getD_cons_succ, Is] at hK ⊢
      rw [h16, h18] at hK ⊢
      clear h16 h18
      refine ite_yes (by rfl) ?_
      go_simp
      exact hK _ _ _ rfl (Grew.refl _) rfl
    · intro y w2 hG hD K hK
      simp only [depsH, List.getD_cons_zero, List.getD_cons_succ, Is, and_true] at hD
      have h16 := hD.1
      have h19 := hD.2
      clear hD
      simp only [fillL, Act.put, List.setIfInBounds_toArray, List.set_cons_zero, List.set_cons_succ, List.getD_cons_zero, List.getD_cons_succ, Is] at hK ⊢
      rw [h16, h19] at hK ⊢
      clear h16 h19
      refine ite_yes (by rfl) ?_
      go_simp
      exact hK _ _ _ rfl (Grew.refl _) rfl
    · intro y w2 hG hD K hK
      simp only [depsH, List.getD_cons_zero, List.getD_cons_succ, Is, and_true] at hD
      have h20 := hD
      clear hD
      simp only [fillL, Act.put, List.setIfInBounds_toArray, List.set_cons_zero, List.set_cons_succ, List.getD_cons_zero, List.getD_cons_succ, Is] at hK ⊢
      rw [h20] at hK ⊢
      clear h20
      refine ite_yes (by rfl) ?_
      go_simp
      exact hK _ _ _ rfl (Grew.refl _) rfl
    · intro y w2 hG hD K hK
      simp only [depsH, List.getD_cons_zero, List.getD_cons_succ, Is, and_true] at hD
      have h21 := hD
      clear hD
      simp only [fillL, Act.put, List.setIfInBounds_toArray, List.set_cons_zero, List.set_cons_succ, List.getD_cons_zero, List.getD_cons_succ, Is] at hK ⊢
      rw [h21] at hK ⊢
      clear h21
      refine ite_yes (by rfl) ?_
      go_simp
      exact hK _ _ _ rfl (Grew.refl _) rfl
    · intro y w2 hG hD K hK
      simp only [depsH, List.getD_cons_zero, List.getD_cons_succ, Is, and_true] at hD
      have h21 := hD.1
      have h22 := hD.2
      clear hD
      simp only [fillL, Act.put, List.setIfInBounds_toArray, List.set_cons_zero, List.set_cons_succ, List.getD_cons_zero, List.getD_cons_succ, Is] at hK ⊢
      rw [h21, h22] at hK ⊢
      clear h21 h22
      refine ite_yes (by rfl) ?_
      go_simp
      exact hK _ _ _ rfl (Grew.refl _) rfl
    · intro y w2 hG hD K hK
      simp only [depsH, List.getD_cons_zero, List.getD_cons_succ, Is, and_true] at hD
      have h21 := hD.1
      have h23 := hD.2
      clear hD
      simp only [fillL, Act.put, List.setIfInBounds_toArray, List.set_cons_zero, List.set_cons_succ, List.getD_cons_zero, List.getD_cons_succ, Is] at hK ⊢
      rw [h21, h23] at hK ⊢
      clear h21 h23
      refine ite_yes (by rfl) ?_
      go_simp
      exact hK _ _ _ rfl (Grew.refl _) rfl
    · intro y w2 hG hF
      simp only [factsH, Is, and_true, Nat.reduceAdd] at hF
      have h0 := hF.1
      have h1 := hF.2.1
      have h2 := hF.2.2.1
      have h3 := hF.2.2.2.1
      have h4 := hF.2.2.2.2.1
      have h5 := hF.2.2.2.2.2.1
      have h6 := hF.2.2.2.2.2.2.1
      have h7 := hF.2.2.2.2.2.2.2.1
      have h8 := hF.2.2.2.2.2.2.2.2.1
      have h9 := hF.2.2.2.2.2.2.2.2.2.1
      have h10 := hF.2.2.2.2.2.2.2.2.2.2.1
      have h11 := hF.2.2.2.2.2.2.2.2.2.2.2.1
      have h12 := hF.2.2.2.2.2.2.2.2.2.2.2.2.1
      have h13 := hF.2.2.2.2.2.2.2.2.2.2.2.2.2.1
      have h14 := hF.2.2.2.2.2.2.2.2.2.2.2.2.2.2.1
      have h15 := hF.2.2.2.2.2.2.2.2.2.2.2.2.2.2.2.1
      have h16 := hF.2.2.2.2.2.2.2.2.2.2.2.2.2.2.2.2.1
      have h17 := hF.2.2.2.2.2.2.2.2.2.2.2.2.2.2.2.2.2.1
      have h18 := hF.2.2.2.2.2.2.2.2.2.2.2.2.2.2.2.2.2.2.1
      have h19 := hF.2.2.2.2.2.2.2.2.2.2.2.2.2.2.2.2.2.2.2.1
      have h20 := hF.2.2.2.2.2.2.2.2.2.2.2.2.2.2.2.2.2.2.2.2.1
      have h21 := hF.2.2.2.2.2.2.2.2.2.2.2.2.2.2.2.2.2.2.2.2.2.1
      have h22 := hF.2.2.2.2.2.2.2.2.2.2.2.2.2.2.2.2.2.2.2.2.2.2.1
      have h23 := hF.2.2.2.2.2.2.2.2.2.2.2.2.2.2.2.2.2.2.2.2.2.2.2.1
      have h24 := hF.2.2.2.2.2.2.2.2.2.2.2.2.2.2.2.2.2.2.2.2.2.2.2.2
      clear hF
      simp only [fillL, Act.put, List.setIfInBounds_toArray, List.set_cons_zero, List.set_cons_succ, List.getD_cons_zero, List.getD_cons_succ, Is]
      rw [h0, h1, h2, h3, h4, h5, h6, h7, h8, h9, h10, h11, h12, h13, h14, h15, h16, h17, h18, h19, h20, h21, h22, h23, h24]
      clear h0 h1 h2 h3 h4 h5 h6 h7 h8 h9 h10 h11 h12 h13 h14 h15 h16 h17 h18 h19 h20 h21 h22 h23 h24
      have hra := hG.heap HRA5.out
      have HRA6 := Lib.hid hra
      have k0 := row_cell hra 0 _ rfl
      have k1 := row_cell hra 1 _ rfl
      have k2 := row_cell hra 2 _ rfl
      have HL6 := Lib.hid (HL5.out.grew hG)
      clear hG hra c0 c1 c2 d0 d1 d2 HRA5 HRB5 HVB HL5
      go_wp2_with fail
      refine (num18_any 5 1 _).mono ?_
      rintro r w6 ⟨rfl, hg6⟩
      have HL7 := Lib.hid (HL6.out.grew hg6)
      have HRA7 := Lib.hid (hg6.heap HRA6.out)
      clear hg6 k0 k1 k2 HL6 HRA6
      go_wp2_with fail
      obtain ⟨o7, b7, e7, q7, r7⟩ := HL7.out
      refine (put_map ([107, 0, 1, 3, 1, 1, 1, 5, 4], 0) (1, 1, 5) (.slice none 0 0) [] b7 e7.size q7 r7 ⟨none, 0, rfl, fun i x hx => by simp at hx⟩ (fun c e => by cases e; rfl) (by decide) (by simp) ⟨by decide, by decide⟩ (fun ad n c e => by cases e) rfl).mono ?_
      rw [mex3]
      rintro r w7 ⟨rfl, ht⟩
      have HL8 := Lib.hid (Live.turn (s' := ([107, 0, 1, 3, 1, 1, 1, 5, 4], 0)) b7 e7 ht (by decide) r7)
      have HRA8 : Hid (w7.heap[ga]? = some (rowV (14, 1, 3))) := by
        obtain ⟨_, _, _, hm⟩ := ht
        exact hm.heap HRA7.out (b7.not_row HRA7.out)
      clear ht b7 e7 q7 r7 HL7 HRA7
      rw [show putV (((0, 0, 0), 60) : V3 × Int) = .tuple #[.agg #[.int .i64 0, .int .i64 0, .int .u64 0], .int .i64 60] from rfl]
      go_wp2_with fail
      refine (keys18_any 3 3 _).mono ?_
      rintro r w8 ⟨rfl, hg8⟩
      have HL9 := Lib.hid (HL8.out.grew hg8)
      have HRA9 := Lib.hid (hg8.heap HRA8.out)
      clear hg8 HL8 HRA8
      go_wp2_with fail
      obtain ⟨o7, b7, e7, q7, r7⟩ := HL9.out
      refine (put_map ([107, 0, 1, 3, 1, 1, 1, 5, 4], 0) (14, 3, 3) (.slice none 0 0) [] b7 e7.size q7 r7 ⟨none, 0, rfl, fun i x hx => by simp at hx⟩ (fun c e => by cases e; rfl) (by decide) (by simp) ⟨by decide, by decide⟩ (fun ad n c e => by cases e) rfl).mono ?_
      rw [mex4]
      rintro r w9 ⟨rfl, ht⟩
      have HLA := Lib.hid (Live.turn (s' := ([107, 0, 1, 3, 1, 1, 1, 5, 4], 0)) b7 e7 ht (by decide) r7)
      have HRAA : Hid (w9.heap[ga]? = some (rowV (14, 1, 3))) := by
        obtain ⟨_, _, _, hm⟩ := ht
        exact hm.heap HRA9.out (b7.not_row HRA9.out)
      clear ht b7 e7 q7 r7 HL9 HRA9
      rw [show putV (((0, 0, 0), 2) : V3 × Int) = .tuple #[.agg #[.int .i64 0, .int .i64 0, .int .u64 0], .int .i64 2] from rfl]
      have k0 := row_cell HRAA.out 0 _ rfl
      have k1 := row_cell HRAA.out 1 _ rfl
      have k2 := row_cell HRAA.out 2 _ rfl
      go_wp2_with fail
      have hga := (Grew.refl w9).alloc (rowV (3, 0, 0))
      have hra9 := heap_alloc_new w9 (rowV (3, 0, 0))
      obtain ⟨o7, b7, e7, q7, r7⟩ := HLA.out
      refine (put_map ([107, 0, 1, 3, 1, 1, 1, 5, 4], 0) (14, 1, 3) _ [(3, 0, 0)] (b7.grew hga) (Nat.le_trans e7.size hga.size) q7 r7 (valsRow hra9) (fun c e => by cases e) (by decide) (okV1 _ _ _ (by decide) (by decide)) ⟨by decide, by decide⟩ ?_ rfl).mono ?_
      · intro ad n' c' e
        cases e
        exact ⟨(Array.getElem?_eq_some_iff.1 hra9).1, fun hq => absurd (b7.lt _ hq) (Nat.lt_irrefl _)⟩
      rw [mex5]
      rintro r wa ⟨rfl, ht⟩
      have HLB := Lib.hid (Live.turn (s' := ([107, 0, 1, 3, 1, 1, 1, 5, 4], 0)) (b7.grew hga) (Below.trans e7 (Below.mono hga e7.size)) ht (by decide) r7)
      clear ht b7 e7 q7 r7 hga hra9 HLA HRAA k0 k1 k2
      rw [show putV (((0, 0, 0), 20) : V3 × Int) = .tuple #[.agg #[.int .i64 0, .int .i64 0, .int .u64 0], .int .i64 20] from rfl]
      go_wp2_with fail
      refine (lenL HLB.out).mono ?_
      rintro r w' ⟨rfl, e⟩
      rw [e]
      clear e w'
      have HGF := Lib.hid HLB.out.below
      go_wp2
      go_ret
      exact ⟨rfl, HGF.out⟩
end Go.Proofs.Ytajpbclcfjljnaa
