/-
  Texts of the proof, part 18 of 21.
-/
import Derived.Test.YtajpbclcfjljnaaPAQ

/-
  Vectors: what is read back of the encoding.
-/
namespace Go.Proofs.Ytajpbclcfjljnaa
open Go Go.ChangeShapes Go.WideShapes Go.ChangeAt Go.RowKit Go.Joins
open Go.Proofs.Ytajpbclcfjljnaa.Ft (V3 vV okV ValsAt inlineB legalB packF codeF typedF allF allAt headF fitsL fitsV fitsF belowW isA unpackF)
set_option linter.unusedVariables false
set_option linter.unusedSimpArgs false
theorem digB_succ (n u : Nat) : digB (n + 1) u = UInt8.ofNat (u % 256) :: digB n (u / 256) := by
  unfold digB
  rw [List.range_succ_eq_map, List.map_cons, List.map_map]
  simp only [Nat.pow_zero, Nat.div_one]
  congr 1
  apply List.map_congr_left
  intro i _
  simp only [Function.comp, Nat.succ_eq_add_one]
  rw [Nat.pow_succ, Nat.mul_comm (256 ^ i) 256, ← Nat.div_div_eq_div_mul]
theorem leF_digB : ∀ (n u : Nat), u < 256 ^ n → leF (digB n u) = u
  | 0, u, h => by
    have : u = 0 := by simpa using h
    subst this
    simp [digB, leF]
  | n + 1, u, h => by
    rw [digB_succ]
    show ((UInt8.ofNat (u % 256)).toNat : Int) + 256 * leF (digB n (u / 256)) = u
    rw [leF_digB n (u / 256) (by rw [Nat.pow_succ] at h; omega), UInt8.toNat_ofNat']
    omega
theorem pow_256 {x : Int} (hx : isW x = true) : (256 : Nat) ^ x.toNat = (2 ^ (8 * x.toNat) : Int) := by
  rcases isW_cases hx with rfl | rfl | rfl | rfl <;> decide
theorem loadF_at {X A C : List UInt8} {x u at_ : Int} (hx : isW x = true) (hX : X = A ++ digB x.toNat u.toNat ++ C) (hA : (A.length : Int) = at_) (h0 : 0 ≤ u) (h1 : u < 2 ^ (8 * x.toNat)) : loadF X at_ x = (u, 0) := by
  have hp := isW_pos hx
  subst hX
  unfold loadF
  rw [if_pos hx, if_neg (by rw [List.length_append, List.length_append, length_digB]; omega)]
  have e : (((A ++ digB x.toNat u.toNat ++ C).drop at_.toNat).take x.toNat) = digB x.toNat u.toNat := by
    rw [← hA, show ((A.length : Int)).toNat = A.length by omega, List.append_assoc, List.drop_left, List.take_left' (length_digB _ _)]
  rw [e, leF_digB _ _ (by have := pow_256 hx; omega)]
  rw [show (u.toNat : Int) = u by omega]
theorem encL_at {x : Int} (hx : isW x = true) : ∀ (l : List V3) (p : Int) (k : Nat) (v : V3), l[k]? = some v → ∃ A C, (encL x p l).flatten = A ++ digB x.toNat (encN x (p + k * x) v).toNat ++ C ∧ (A.length : Int) = k * x
  | [], _, _, _, h => by simp at h
  | u :: r, p, 0, v, h => by
    simp at h
    subst h
    exact ⟨[], (encL x (p + x) r).flatten, by simp [encL], by simp⟩
  | u :: r, p, k + 1, v, h => by
    have hp := isW_pos hx
    obtain ⟨A, C, h1, h2⟩ := encL_at hx r (p + x) k v (by simpa using h)
    refine ⟨digB x.toNat (encN x p u).toNat ++ A, C, ?_, ?_⟩
    · have e : p + x + (k : Int) * x = p + ((k + 1 : Nat) : Int) * x := by rw [Int.natCast_add, Int.add_mul]; simp; omega
      rw [e] at h1
      simp only [encL, List.flatten_cons, h1, List.append_assoc]
    · rw [List.length_append, length_digB, Int.natCast_add, h2, Int.natCast_add, Int.add_mul]
      simp; omega
theorem flatten_tags (x : Int) (l : List V3) : (l.map fun v => [tagB x v]).flatten = l.map (tagB x) := by
  induction l with
  | nil => rfl
  | cons v r ih => simp only [List.map_cons, List.flatten_cons, ih]; rfl
theorem fitsL_get : ∀ (l : List V3) (at_ i x : Int) (k : Nat) (v : V3), fitsL l at_ i x = true → l[k]? = some v → fitsV v at_ (i + k) x = true
  | [], _, _, _, _, _, _, h => by simp at h
  | u :: r, at_, i, x, 0, v, hf, h => by
    have : (fitsV u at_ i x && fitsL r at_ (i + 1) x) = true := hf
    simp at this h
    subst h
    simpa using this.1
  | u :: r, at_, i, x, k + 1, v, hf, h => by
    have : (fitsV u at_ i x && fitsL r at_ (i + 1) x) = true := hf
    simp only [Bool.and_eq_true] at this
    have h2 := fitsL_get r at_ (i + 1) x k v this.2 (by simpa using h)
    rw [show i + ((k + 1 : Nat) : Int) = i + 1 + k by omega]
    exact h2
structure Held (x p : Int) (tagged : Bool) (n : Nat) (X : List UInt8) (l : List V3) : Prop where
  head : X.take n = zeros n
  len : (X.length : Int) = p + x * l.length + (if tagged then (l.length : Int) else 0)
  elem : ∀ (k : Nat) (v : V3), l[k]? = some v → loadF X (p + k * x) x = (encN x (p + k * x) v, 0)
  tag : tagged = true → ∀ (k : Nat) (v : V3), l[k]? = some v → X[(p + l.length * x).toNat + k]? = some (tagB x v)
theorem fitE_get {x : Int} : ∀ (l : List V3) (p : Int) (k : Nat) (v : V3), fitE x p l → l[k]? = some v → 0 ≤ encN x (p + k * x) v ∧ encN x (p + k * x) v < 2 ^ (8 * x.toNat)
  | [], _, _, _, _, h => by simp at h
  | u :: r, p, 0, v, hf, h => by
    simp at h
    subst h
    simpa using hf.1
  | u :: r, p, k + 1, v, hf, h => by
    have h2 := fitE_get r (p + x) k v hf.2 (by simpa using h)
    have e : p + x + (k : Int) * x = p + ((k + 1 : Nat) : Int) * x := by rw [Int.natCast_add, Int.add_mul]; simp; omega
    rw [e] at h2
    exact h2
theorem held {n : Nat} {l : List V3} {x p : Int} {len tagged : Bool} (hn : n ≤ 1048576) (hl : l.length ≤ 1048576) (h : ∀ v ∈ l, Near n v) (hx : allF l (0, 0, 0) n (if len then 1 else 0) = x) (hp : ((zeros n).length : Int) + padN (zeros n) x + (if len then x else 0) = p) :
    isW x = true ∧ Held x p tagged n (zeros n ++ (pieces x len tagged (zeros n) l).flatten) l ∧ (p - (if len then x else 0)) % x = 0 ∧ (n : Int) ≤ p - (if len then x else 0) ∧ p - (if len then x else 0) < n + x ∧ (len = true → loadF (zeros n ++ (pieces x len tagged (zeros n) l).flatten) (p - x) x = ((l.length : Int), 0)) ∧ (∀ v ∈ l, inlineB v.1 = true → v.2.1 ≤ x) := by
  obtain ⟨_, x0, hw, hall⟩ := allF_near (n := n) (ahead := if len then 1 else 0) (by cases len <;> simp) (by omega) (by omega) hl h
  rw [hx] at hw hall
  have hwp := isW_pos hw
  have hfit : fitsL l n (if len then 1 else 0) x = true := by
    have h := hall
    unfold allAt at h
    simp only [Bool.and_eq_true] at h
    exact h.2
  have hzl : (zeros n).length = n := length_zeros n
  have hpad := padN_lt (l := zeros n) hw
  have hpe := pad_eq hw (zeros n)
  rw [hzl] at hp hpad hpe
  have hfe : fitE x p l := fitE_of hw l (if len then 1 else 0) p (by rw [← hp, hpe]; cases len <;> simp) (by cases len <;> simp) hfit
  have hlenf : len = true → (l.length : Int) < 2 ^ (8 * x.toNat) := by
    intro hl1
    subst hl1
    have h := hall
    unfold allAt headF at h
    simp only [Bool.and_eq_true, belowW] at h
    have := h.1.1
    simpa using this
  have hpieces : (pieces x len tagged (zeros n) l).flatten = (zeros (padN (zeros n) x) ++ (if len then digB x.toNat l.length else [])) ++ (encL x p l).flatten ++ (if tagged then l.map (tagB x) else []) := by
    unfold pieces
    rw [hzl, hp]
    cases len <;> cases tagged <;> simp [flatten_tags]
  have hAl : ((zeros n ++ (zeros (padN (zeros n) x) ++ (if len then digB x.toNat l.length else []))).length : Int) = p := by
    rw [← hp]
    cases len <;> simp [length_zeros, length_digB] <;> omega
  have hEl := length_encL hw l p
  refine ⟨hw, ⟨?_, ?_, ?_, ?_⟩, ?_, ?_, ?_, ?_, ?_⟩
  · exact List.take_left' hzl
  · rw [hpieces]
    rw [← List.append_assoc, ← List.append_assoc, List.length_append, List.length_append]
    cases tagged
    · simp only [Bool.false_eq_true, if_false, List.length_nil] at hAl ⊢; omega
    · simp only [if_true, List.length_map] at hAl ⊢; omega
  · intro k v hk
    obtain ⟨A, C, hA, hAk⟩ := encL_at hw l p k v hk
    have hb := fitE_get l p k v hfe hk
    refine loadF_at (A := zeros n ++ (zeros (padN (zeros n) x) ++ (if len then digB x.toNat l.length else [])) ++ A) (C := C ++ (if tagged then l.map (tagB x) else [])) hw ?_ ?_ hb.1 hb.2
    · rw [hpieces, hA]; simp only [List.append_assoc]
    · rw [List.length_append]; omega
  · intro ht k v hk
    subst ht
    have hXl : (zeros n ++ (zeros (padN (zeros n) x) ++ (if len then digB x.toNat l.length else [])) ++ (encL x p l).flatten).length = (p + l.length * x).toNat := by
      rw [List.length_append]
      have : (l.length : Int) * x = x * l.length := Int.mul_comm _ _
      omega
    rw [hpieces, ← List.append_assoc, ← List.append_assoc, ← hXl, List.getElem?_append_right (by omega), Nat.add_sub_cancel_left, if_pos rfl, List.getElem?_map, hk]
    rfl
  · have : p - (if len then x else 0) = ((n : Int) + x - 1) / x * x := by rw [← hp, ← hpe]; cases len <;> simp <;> omega
    rw [this]
    exact Int.mul_emod_left _ _
  · rw [← hp]; cases len <;> simp <;> omega
  · rw [← hp]; cases len <;> simp <;> omega
  · intro hl1
    subst hl1
    simp only [if_true] at hp hpieces hAl ⊢
    refine loadF_at (A := zeros n ++ zeros (padN (zeros n) x)) (C := (encL x p l).flatten ++ (if tagged then l.map (tagB x) else [])) hw ?_ ?_ (by omega) (hlenf rfl)
    · rw [hpieces]; simp only [List.append_assoc, Int.toNat_natCast]
    · rw [List.length_append, hzl, length_zeros]; omega
  · intro v hv hi
    obtain ⟨k, hk, hkv⟩ := List.getElem_of_mem hv
    have := fitsL_get l _ _ x k v hfit (by rw [List.getElem?_eq_getElem hk, hkv])
    unfold fitsV fitsF at this
    rw [if_pos hi] at this
    exact of_decide_eq_true this
theorem unpack_tag {x : Int} {v : V3} (hx : isW x = true) (hl : legalE v = 0) : unpackF (tagB x v).toNat = (v.1, if inlineB v.1 then x else v.2.1, 0) := by
  obtain ⟨t, wd, n⟩ := v
  unfold legalE at hl
  by_cases hlb : legalB t = true
  · have hww : isW (if inlineB t then x else wd) = true := by
      split
      · exact hx
      · rename_i hn
        rw [if_pos hlb, if_neg hn] at hl
        by_cases h : isW wd = true
        · exact h
        · rw [if_neg h] at hl; cases hl
    unfold tagB
    generalize (if inlineB t then x else wd) = y at *
    have ht : 0 ≤ t ∧ t < 37 := by
      by_cases h0 : t < 0
      · unfold legalB at hlb; simp [Ft.kindOf, h0] at hlb
      · by_cases h1 : t < 37
        · exact ⟨by omega, h1⟩
        · exfalso
          unfold legalB Ft.kindOf at hlb
          rw [if_neg h0] at hlb
          have : Ft.kindRow t.toNat = (0, 0, 0) := by
            have hm : 37 ≤ t.toNat := by omega
            generalize t.toNat = m at hm
            unfold Ft.kindRow
            split <;> first | rfl | omega
          rw [this] at hlb
          simp at hlb
    have hc : ∃ c : Nat, c < 4 ∧ codeF y = some (c : Int) ∧ y = 2 ^ c := by
      rcases isW_cases hww with rfl | rfl | rfl | rfl
      · exact ⟨0, by omega, rfl, rfl⟩
      · exact ⟨1, by omega, rfl, rfl⟩
      · exact ⟨2, by omega, rfl, rfl⟩
      · exact ⟨3, by omega, rfl, rfl⟩
    obtain ⟨c, hc4, hcode, hy⟩ := hc
    have e : (packF t y).1 = 4 * t + c := by
      unfold packF
      rw [if_pos hlb, hcode]
    rw [e, UInt8.toNat_ofNat', show (4 * t + (c : Int)).toNat % 2 ^ 8 = 4 * t.toNat + c by omega]
    unfold unpackF
    rw [show (4 * t.toNat + c) / 4 = t.toNat by omega, show (4 * t.toNat + c) % 4 = c by omega, show ((t.toNat : Nat) : Int) = t by omega, if_pos hlb, hy]
  · rw [if_neg hlb] at hl; cases hl
theorem low_self {n x : Int} (h0 : 0 ≤ n) (h1 : n < 2 ^ (8 * x.toNat)) : lowF n x = n := Int.emod_eq_of_lt h0 h1
theorem sgn_pos {n x : Int} (hx : isW x = true) (h0 : 0 ≤ n) (h1 : n < 1099511627776) (hw : widF n ≤ x) : IntKind.u64.wrap (sgnF (lowF n x) x) = n ∧ lowF n x = n := by
  have hc := widF_cases n
  rcases isW_cases hx with rfl | rfl | rfl | rfl
  all_goals
    unfold lowF sgnF
    simp only [Int.reduceToNat, Nat.reduceMul, Nat.reduceSub, Int.reducePow, IntKind.wrap_u64]
    constructor
    · split <;> omega
    · omega
theorem sgn_neg {n x : Int} (hx : isW x = true) (h0 : 0 ≤ n) (h1 : n < 1099511627776) (hw : widF n ≤ x) : IntKind.u64.wrap (sgnF (lowF (IntKind.u64.wrap (-n)) x) x) = IntKind.u64.wrap (-n) := by
  have hc := widF_cases n
  rcases isW_cases hx with rfl | rfl | rfl | rfl
  all_goals
    unfold lowF sgnF
    simp only [Int.reduceToNat, Nat.reduceMul, Nat.reduceSub, Int.reducePow, IntKind.wrap_u64]
    split <;> omega
def Back (x : Int) (v : V3) : Prop := (v.1 = 1 ∧ IntKind.u64.wrap (sgnF (lowF v.2.2 x) x) = v.2.2) ∨ ((v.1 = 2 ∨ v.1 = 26) ∧ lowF v.2.2 x = v.2.2) ∨ (inlineB v.1 = false ∧ v.1 ≠ 1 ∧ v.1 ≠ 2 ∧ v.1 ≠ 26)
theorem back_vals (l : List (Int × Int)) (a x : Int) (ha : 1 ≤ a) (hx : isW x = true) : ∀ v ∈ valsF l a, (inlineB v.1 = true → v.2.1 ≤ x) → Back x v := by
  intro v hv
  obtain ⟨y, _, rfl⟩ := List.mem_map.1 hv
  unfold valF
  have h0 : 0 ≤ y.2 % 1099511627776 := by omega
  have h1 : y.2 % 1099511627776 < 1099511627776 := by omega
  generalize y.2 % 1099511627776 = n at *
  rcases valN_cases (y.1 % 6) n a h0 h1 ha with h | h | h | h | ⟨t, w, u, h, hl, hi, hww, hu0, hu1⟩
  · rw [h]; intro hw; exact .inl ⟨rfl, (sgn_pos hx h0 h1 (hw inl_1)).1⟩
  · rw [h]; intro hw; exact .inl ⟨rfl, sgn_neg hx h0 h1 (hw inl_1)⟩
  · rw [h]; intro hw; exact .inr (.inl ⟨.inl rfl, (sgn_pos hx h0 h1 (hw inl_2)).2⟩)
  · rw [h]; intro hw
    have hp : (256 : Int) ≤ 2 ^ (8 * x.toNat) := by rcases isW_cases hx with rfl | rfl | rfl | rfl <;> decide
    exact .inr (.inl ⟨.inr rfl, low_self (show 0 ≤ n % 2 by omega) (show n % 2 < _ by omega)⟩)
  · rw [h]; intro _
    refine .inr (.inr ⟨hi, ?_, ?_, ?_⟩)
    · rintro e; rw [show t = 1 from e] at hi; cases hi
    · rintro e; rw [show t = 2 from e] at hi; cases hi
    · rintro e; rw [show t = 26 from e] at hi; cases hi
theorem loadInt_of {X : List UInt8} {at_ x u : Int} (h : loadF X at_ x = (u, 0)) : loadIntF X at_ x = (sgnF u x, 0) := by
  unfold loadIntF
  rw [h]
  rfl
end Go.Proofs.Ytajpbclcfjljnaa
