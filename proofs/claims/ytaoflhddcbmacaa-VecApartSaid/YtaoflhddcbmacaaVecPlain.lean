/-
  The plain law of a vector's encoding: what Put appends, and when the room suffices.
-/
import Derived.Test.YtaoflhddcbmacaaVecVals
namespace Go.Proofs.Ytaoflhddcbmacaa
open Go Go.ChangeShapes Go.WideShapes Go.ChangeAt Go.RowKit Go.Joins
open Go.Proofs.Ytaoflhddcbmacaa.Ft (V3 vV okV ValsAt inlineB legalB packF codeF typedF allF allAt headF fitsL fitsV fitsF belowW leastOf isA)
set_option linter.unusedVariables false
set_option linter.unusedSimpArgs false

section
variable {most x u : Int} {y : List UInt8} {s : St} {v : V3}
theorem putS_stuck (h : s.2 ≠ 0) : putS most y s = s := by
  obtain ⟨b, e⟩ := s
  show (putL b y most e, putE b y most e) = (b, e)
  unfold putL putE
  rw [if_neg (fun k => h k.1), if_neg (fun k => h k.1)]
theorem failP_stuck (z : Int) (h : s.2 ≠ 0) : failP z s = s := by
  obtain ⟨b, e⟩ := s
  show (b, failS e z) = (b, e)
  unfold failS
  rw [if_neg h]
theorem alignS_stuck (h : s.2 ≠ 0) : alignS most x s = s := by
  unfold alignS; split
  · exact putS_stuck h
  · exact failP_stuck _ h
theorem numS_stuck (h : s.2 ≠ 0) : numS most x u s = s := by
  unfold numS; split
  · split
    · exact putS_stuck h
    · exact failP_stuck _ h
  · exact failP_stuck _ h
theorem elemS_stuck (h : s.2 ≠ 0) : elemS most x s v = s := by
  unfold elemS; split <;> exact numS_stuck h
theorem elemsS_stuck (h : s.2 ≠ 0) : ∀ l : List V3, elemsS most x l s = s
  | [] => rfl
  | v :: r => by
    show elemsS most x r (elemS most x s v) = s
    rw [elemS_stuck h]
    exact elemsS_stuck h r
theorem tagsS_stuck (h : s.2 ≠ 0) : ∀ l : List V3, tagsS most x l s = s
  | [] => rfl
  | v :: r => by
    show tagsS most x r (tagS most x s v) = s
    rw [show tagS most x s v = s from putS_stuck h]
    exact tagsS_stuck h r
end
theorem putS_full {most : Int} {l y : List UInt8} (hf : ¬ (l.length : Int) + y.length ≤ most) : putS most y (l, 0) = (l, 5) := by
  show (putL l y most 0, putE l y most 0) = _
  unfold putL putE
  rw [if_neg (fun k => hf (by have := k.2; omega)), if_pos ⟨rfl, fun k => hf (by omega)⟩]
/-- One put behind another. -/
def chain (most : Int) : List (List UInt8) → St → St
  | [], s => s
  | y :: r, s => chain most r (putS most y s)
theorem chain_append (most : Int) : ∀ (ys zs : List (List UInt8)) (s : St), chain most (ys ++ zs) s = chain most zs (chain most ys s)
  | [], _, _ => rfl
  | y :: r, zs, s => chain_append most r zs (putS most y s)
theorem chain_stuck {most : Int} {s : St} (h : s.2 ≠ 0) : ∀ ys, chain most ys s = s
  | [] => rfl
  | y :: r => by
    show chain most r (putS most y s) = s
    rw [putS_stuck h]
    exact chain_stuck h r
theorem chain_fit {most : Int} : ∀ (ys : List (List UInt8)) (b : List UInt8), (b.length : Int) + ys.flatten.length ≤ most → chain most ys (b, 0) = (b ++ ys.flatten, 0)
  | [], b, _ => by simp [chain]
  | y :: r, b, h => by
    have h2 : (b.length : Int) + y.length + r.flatten.length ≤ most := by simp at h ⊢; omega
    show chain most r (putS most y (b, 0)) = _
    rw [put_fit most b y (by omega), chain_fit r (b ++ y) (by simp at h2 ⊢; omega)]
    simp
theorem chain_full {most : Int} : ∀ (ys : List (List UInt8)) (b : List UInt8), (b.length : Int) ≤ most → ¬ (b.length : Int) + ys.flatten.length ≤ most → (chain most ys (b, 0)).2 = 5 ∧ ((chain most ys (b, 0)).1.length : Int) ≤ most
  | [], b, hb, h => absurd (by simpa using hb) h
  | y :: r, b, hb, h => by
    show (chain most r (putS most y (b, 0))).2 = 5 ∧ ((chain most r (putS most y (b, 0))).1.length : Int) ≤ most
    by_cases hy : (b.length : Int) + y.length ≤ most
    · rw [put_fit most b y hy]
      exact chain_full r (b ++ y) (by simpa using hy) (by simp at h ⊢; omega)
    · rw [putS_full hy, chain_stuck (s := (b, 5)) (show (5 : Int) ≠ 0 by decide)]
      exact ⟨rfl, hb⟩
/-- What an element of width x at position p holds. -/
def encN (x p : Int) (v : V3) : Int := if inlineB v.1 then lowF v.2.2 x else p - v.2.2
def encL (x : Int) : Int → List V3 → List (List UInt8)
  | _, [] => []
  | p, v :: r => digB x.toNat (encN x p v).toNat :: encL x (p + x) r
def fitE (x : Int) : Int → List V3 → Prop
  | _, [] => True
  | p, v :: r => (0 ≤ encN x p v ∧ encN x p v < 2 ^ (8 * x.toNat)) ∧ fitE x (p + x) r
theorem isW_pow {x : Int} (hx : isW x = true) : (2 : Int) ^ (8 * x.toNat) ≤ 18446744073709551616 := by
  rcases isW_cases hx with rfl | rfl | rfl | rfl <;> decide
theorem isW_pos {x : Int} (hx : isW x = true) : 1 ≤ x ∧ x ≤ 8 := by
  rcases isW_cases hx with rfl | rfl | rfl | rfl <;> decide
theorem numS_put {most x u : Int} {s : St} (hx : isW x = true) (h1 : u < 2 ^ (8 * x.toNat)) : numS most x u s = putS most (digB x.toNat u.toNat) s := by
  unfold numS
  rw [if_pos hx, if_pos (by unfold fitU; exact decide_eq_true h1)]
theorem elemS_put {most x : Int} {b : List UInt8} {v : V3} (hx : isW x = true) (h : 0 ≤ encN x b.length v ∧ encN x b.length v < 2 ^ (8 * x.toNat)) : elemS most x (b, 0) v = putS most (digB x.toNat (encN x b.length v).toNat) (b, 0) := by
  have hp := isW_pow hx
  unfold elemS
  unfold encN at h ⊢
  split
  · rename_i hi
    rw [if_pos hi] at h
    exact numS_put hx h.2
  · rename_i hi
    rw [if_neg hi] at h
    have e : IntKind.u64.wrap ((b.length : Int) - v.2.2) = (b.length : Int) - v.2.2 := by rw [IntKind.wrap_u64]; omega
    show numS most x (IntKind.u64.wrap ((b.length : Int) - v.2.2)) (b, 0) = _
    rw [e]
    exact numS_put hx h.2
theorem elemsS_chain {most x : Int} (hx : isW x = true) : ∀ (l : List V3) (b : List UInt8), fitE x b.length l → elemsS most x l (b, 0) = chain most (encL x b.length l) (b, 0)
  | [], b, _ => rfl
  | v :: r, b, h => by
    have hp := isW_pos hx
    show elemsS most x r (elemS most x (b, 0) v) = chain most (encL x ((b.length : Int) + x) r) (putS most (digB x.toNat (encN x b.length v).toNat) (b, 0))
    rw [elemS_put hx h.1]
    by_cases hf : (b.length : Int) + (digB x.toNat (encN x b.length v).toNat).length ≤ most
    · rw [put_fit _ _ _ hf]
      have e : (b.length : Int) + x = ((b ++ digB x.toNat (encN x b.length v).toNat).length : Int) := by rw [List.length_append, length_digB]; omega
      have h2 := h.2
      rw [e] at h2 ⊢
      exact elemsS_chain hx r _ h2
    · rw [putS_full hf, elemsS_stuck (s := (b, 5)) (show (5 : Int) ≠ 0 by decide), chain_stuck (s := (b, 5)) (show (5 : Int) ≠ 0 by decide)]
theorem tagsS_chain {most x : Int} : ∀ (l : List V3) (s : St), tagsS most x l s = chain most (l.map fun v => [tagB x v]) s
  | [], s => rfl
  | v :: r, s => by
    show tagsS most x r (tagS most x s v) = chain most (r.map fun v => [tagB x v]) (putS most [tagB x v] s)
    have : tagS most x s v = putS most [tagB x v] s := by unfold tagS; rw [show bytesS [⟨#[tagB x v]⟩] = [tagB x v] by simp [bytesS]]
    rw [this]
    exact tagsS_chain r _
theorem pad_eq {x : Int} (hx : isW x = true) (b : List UInt8) : (b.length : Int) + padN b x = ((b.length : Int) + x - 1) / x * x := by
  unfold padN
  rcases isW_cases hx with rfl | rfl | rfl | rfl <;> omega
theorem length_encL {x : Int} (hx : isW x = true) : ∀ (l : List V3) (p : Int), ((encL x p l).flatten.length : Int) = x * l.length
  | [], p => by simp [encL]
  | v :: r, p => by
    have h := length_encL hx r (p + x)
    have hp := isW_pos hx
    simp only [encL, List.flatten_cons, List.length_append, length_digB, List.length_cons]
    have e : x * ((r.length + 1 : Nat) : Int) = x * r.length + x := by rw [Int.natCast_add, Int.mul_add]; simp
    rw [e]
    omega
theorem length_tags (x : Int) (l : List V3) : (l.map fun v => [tagB x v]).flatten.length = l.length := by
  induction l with
  | nil => rfl
  | cons v r ih => simp only [List.map_cons, List.flatten_cons, List.length_append, List.length_cons, List.length_nil, ih]; omega
theorem low_lt (n x : Int) : 0 ≤ lowF n x ∧ lowF n x < 2 ^ (8 * x.toNat) := by
  unfold lowF
  have h : (0 : Int) < 2 ^ (8 * x.toNat) := Int.pow_pos (by decide)
  exact ⟨Int.emod_nonneg _ (by omega), Int.emod_lt_of_pos _ h⟩
/-- What fits by the widths' rule is what the elements hold. -/
theorem fitE_of {x at_ : Int} (hx : isW x = true) : ∀ (l : List V3) (i p : Int), p = (at_ + x - 1) / x * x + i * x → 0 ≤ i → fitsL l at_ i x = true → fitE x p l
  | [], _, _, _, _, _ => trivial
  | v :: r, i, p, hp, hi, h => by
    have hw := isW_pos hx
    have h1 : fitsV v at_ i x = true := by
      have : (fitsV v at_ i x && fitsL r at_ (i + 1) x) = true := h
      simp at this; exact this.1
    have h2 : fitsL r at_ (i + 1) x = true := by
      have : (fitsV v at_ i x && fitsL r at_ (i + 1) x) = true := h
      simp at this; exact this.2
    have hs : p + x = (at_ + x - 1) / x * x + (i + 1) * x := by rw [hp, Int.add_mul]; omega
    refine ⟨?_, fitE_of hx r (i + 1) (p + x) hs (by omega) h2⟩
    unfold encN
    split
    · exact low_lt _ _
    · rename_i hn
      unfold fitsV fitsF at h1
      rw [if_neg hn] at h1
      simp only [Bool.and_eq_true, decide_eq_true_eq, belowW] at h1
      have hge : at_ ≤ (at_ + x - 1) / x * x := by rcases isW_cases hx with rfl | rfl | rfl | rfl <;> omega
      have hix : 0 ≤ i * x := Int.mul_nonneg hi (by omega)
      rw [hp]
      exact ⟨by omega, h1.2⟩
/-- The pieces that Put appends. -/
def pieces (x : Int) (len tagged : Bool) (b : List UInt8) (l : List V3) : List (List UInt8) :=
  zeros (padN b x) :: (if len then [digB x.toNat l.length] else []) ++ encL x ((b.length : Int) + padN b x + (if len then x else 0)) l ++ (if tagged then l.map fun v => [tagB x v] else [])
def lenOf (x : Int) (len tagged : Bool) (b : List UInt8) (l : List V3) : Int := b.length + padN b x + (if len then x else 0) + x * l.length + (if tagged then (l.length : Int) else 0)
theorem length_pieces {x : Int} (hx : isW x = true) (len tagged : Bool) (b : List UInt8) (l : List V3) : (b.length : Int) + (pieces x len tagged b l).flatten.length = lenOf x len tagged b l := by
  have h1 := length_encL hx l ((b.length : Int) + padN b x + (if len then x else 0))
  have h2 := length_tags x l
  have hp := isW_pos hx
  unfold pieces lenOf
  cases len <;> cases tagged <;> simp only [List.flatten_append, List.flatten_cons, List.length_append, List.flatten_nil, List.length_nil, length_zeros, length_digB, if_true, Bool.false_eq_true, if_false, List.cons_append, List.nil_append] at h1 ⊢ <;> omega
theorem leastOf_holds {p : Int → Bool} (h : leastOf p ≠ 0) : p (leastOf p) = true := by
  revert h
  unfold leastOf
  repeat' split
  all_goals simp_all
theorem leastOf_ok {p : Int → Bool} (h : p 8 = true) : leastOf p ≠ 0 := by
  unfold leastOf
  repeat' split
  all_goals simp_all
/-- What is near: what a vector at n can hold. -/
def Near (n : Int) (v : V3) : Prop := legalE v = 0 ∧ okV v ∧ (inlineB v.1 = true → v.2.1 ≤ 8) ∧ (inlineB v.1 = false → v.2.2 ≤ n)
theorem fits_near {n : Int} : ∀ (l : List V3) (i : Int), (∀ v ∈ l, Near n v) → 0 ≤ n → 0 ≤ i → n + 8 + (i + l.length) * 8 < 18446744073709551616 → fitsL l n i 8 = true
  | [], _, _, _, _, _ => rfl
  | v :: r, i, h, hn, hi, hb => by
    have hv := h v (by simp)
    obtain ⟨_, ho, h1, h2⟩ := hv
    have hc : ((v :: r).length : Int) = r.length + 1 := by simp
    rw [hc] at hb
    have e : fitsL (v :: r) n i 8 = (fitsV v n i 8 && fitsL r n (i + 1) 8) := rfl
    rw [e, fits_near r (i + 1) (fun u hu => h u (by simp [hu])) hn (by omega) (by omega), Bool.and_true]
    unfold fitsV fitsF
    cases hi2 : inlineB v.1 with
    | true => simp; exact h1 hi2
    | false =>
      have := h2 hi2
      have h0 := ho.1
      simp only [Bool.false_eq_true, if_false, Bool.and_eq_true, decide_eq_true_eq, belowW]
      refine ⟨this, ?_⟩
      show (n + 8 - 1) / 8 * 8 + i * 8 - v.2.2 < 2 ^ (8 * (8 : Int).toNat)
      have : (2 : Int) ^ (8 * (8 : Int).toNat) = 18446744073709551616 := by decide
      omega
theorem allF_near {n ahead : Int} {l : List V3} (ha : ahead = 0 ∨ ahead = 1) (hn : 0 ≤ n) (hn2 : n ≤ 1048576) (hl : l.length ≤ 1048576) (h : ∀ v ∈ l, Near n v) :
    allF l (0, 0, 0) n ahead = leastOf (fun v => allAt l (0, 0, 0) n ahead v) ∧ allF l (0, 0, 0) n ahead ≠ 0 ∧ isW (allF l (0, 0, 0) n ahead) = true ∧ allAt l (0, 0, 0) n ahead (allF l (0, 0, 0) n ahead) = true := by
  have hA : isA ahead := by rcases ha with rfl | rfl <;> simp [isA]
  have e : allF l (0, 0, 0) n ahead = leastOf (fun v => allAt l (0, 0, 0) n ahead v) := by
    unfold allF
    rw [if_pos ⟨⟨hn, by omega⟩, hA, hl⟩]
  have h8 : allAt l (0, 0, 0) n ahead 8 = true := by
    unfold allAt
    rw [fits_near l ahead h hn (by omega) (by omega), Bool.and_true]
    unfold headF
    have : (ahead == 3) = false := by rcases ha with rfl | rfl <;> rfl
    rw [this]
    have hb : belowW l.length 8 = true := by unfold belowW; rw [decide_eq_true_eq]; have : (2 : Int) ^ (8 * (8 : Int).toNat) = 18446744073709551616 := by decide
                                             omega
    rw [hb]
    simp
  have h0 : allF l (0, 0, 0) n ahead ≠ 0 := by rw [e]; exact leastOf_ok h8
  refine ⟨e, h0, allF_isW h0, ?_⟩
  have := leastOf_holds (p := fun v => allAt l (0, 0, 0) n ahead v) (by rw [← e]; exact h0)
  rw [← e] at this
  exact this
/-- Put, told by its pieces. -/
theorem putF_chain {most : Int} {T : V3 → Int} {len tagged : Bool} {kind : Int} {b : List UInt8} {l : List V3} (hT : ∀ v ∈ l, T v = 0) (hb : b.length ≤ 1048576) (hl : l.length ≤ 1048576) (h : ∀ v ∈ l, Near b.length v) :
    putF most T len tagged kind 0 l (b, 0) = (fun x => (fun sf : St => if sf.2 ≠ 0 then (((0, 0, 0), sf.2), sf) else (((kind, x, ((chain most (zeros (padN b x) :: (if len then [digB x.toNat l.length] else [])) (b, 0)).1.length : Int)), 0), sf)) (chain most (pieces x len tagged b l) (b, 0))) (allF l (0, 0, 0) b.length (if len then 1 else 0)) := by
  have hT0 : eachL T 0 l = 0 := by
    clear hl h
    induction l with
    | nil => rfl
    | cons v r ih =>
      show eachL T (if (0 : Int) = 0 then T v else 0) r = 0
      rw [if_pos rfl, hT v (by simp)]
      exact ih fun u hu => hT u (by simp [hu])
  obtain ⟨e, x0, hx, hall⟩ := allF_near (n := b.length) (ahead := if len then 1 else 0) (by cases len <;> simp) (by omega) (by omega) hl h
  unfold putF
  rw [if_neg (by simpa using hT0)]
  simp only [if_neg x0]
  generalize allF l (0, 0, 0) b.length (if len then 1 else 0) = x at *
  have hw := isW_pos hx
  have hfit : fitsL l b.length (if len then 1 else 0) x = true := by
    have h := hall
    unfold allAt at h
    simp only [Bool.and_eq_true] at h
    exact h.2
  have hlen : len = true → (l.length : Int) < 2 ^ (8 * x.toNat) := by
    intro hl1
    subst hl1
    have h := hall
    unfold allAt headF at h
    simp only [Bool.and_eq_true, belowW] at h
    have := h.1.1
    simpa using this
  have hp := pad_eq hx b
  have e1 : alignS most x (b, 0) = chain most [zeros (padN b x)] (b, 0) := by
    unfold alignS
    rw [if_pos hx]
    rfl
  have e2 : (if len then numS most x l.length (alignS most x (b, 0)) else alignS most x (b, 0)) = chain most (zeros (padN b x) :: (if len then [digB x.toNat l.length] else [])) (b, 0) := by
    rw [e1]
    cases len with
    | false => rfl
    | true =>
      rw [if_pos rfl, numS_put hx (hlen rfl)]
      rfl
  have e2' : (if len = true then numS most x (↑l.length) (alignS most x (b, 0)) else alignS most x (b, 0)) = chain most (zeros (padN b x) :: (if len then [digB x.toNat l.length] else [])) (b, 0) := e2
  rw [e2']
  have e3 : (if tagged = true then tagsS most x l (elemsS most x l (chain most (zeros (padN b x) :: (if len then [digB x.toNat l.length] else [])) (b, 0))) else elemsS most x l (chain most (zeros (padN b x) :: (if len then [digB x.toNat l.length] else [])) (b, 0))) = chain most (pieces x len tagged b l) (b, 0) := by
    have e4 : elemsS most x l (chain most (zeros (padN b x) :: (if len then [digB x.toNat l.length] else [])) (b, 0)) = chain most (encL x ((b.length : Int) + padN b x + (if len then x else 0)) l) (chain most (zeros (padN b x) :: (if len then [digB x.toNat l.length] else [])) (b, 0)) := by
      by_cases hf : (b.length : Int) + (zeros (padN b x) :: (if len then [digB x.toNat l.length] else [])).flatten.length ≤ most
      · rw [chain_fit _ _ hf]
        have hl2 : ((b ++ (zeros (padN b x) :: (if len then [digB x.toNat l.length] else [])).flatten).length : Int) = (b.length : Int) + padN b x + (if len then x else 0) := by
          cases len <;> simp [length_zeros, length_digB] <;> omega
        rw [elemsS_chain hx l _ (by
          rw [hl2]
          refine fitE_of hx l (if len then 1 else 0) _ ?_ (by cases len <;> simp) hfit
          rw [hp]
          cases len <;> simp), hl2]
      · by_cases hb2 : (b.length : Int) ≤ most
        · have h5 : (chain most (zeros (padN b x) :: (if len then [digB x.toNat l.length] else [])) (b, 0)).2 ≠ 0 := by rw [(chain_full _ b hb2 hf).1]; decide
          rw [elemsS_stuck h5, chain_stuck h5]
        · have h5 : chain most (zeros (padN b x) :: (if len then [digB x.toNat l.length] else [])) (b, 0) = (b, 5) := by
            show chain most _ (putS most (zeros (padN b x)) (b, 0)) = _
            rw [putS_full (by rw [length_zeros]; omega), chain_stuck (s := (b, 5)) (show (5 : Int) ≠ 0 by decide)]
          rw [h5, elemsS_stuck (s := (b, 5)) (show (5 : Int) ≠ 0 by decide), chain_stuck (s := (b, 5)) (show (5 : Int) ≠ 0 by decide)]
    rw [e4]
    unfold pieces
    rw [chain_append, chain_append]
    cases tagged with
    | false => rfl
    | true =>
      rw [if_pos rfl, if_pos rfl, tagsS_chain]
  rw [e3]
theorem putF_ok {most : Int} {T : V3 → Int} {len tagged : Bool} {kind : Int} {b : List UInt8} {l : List V3} {x : Int} (hT : ∀ v ∈ l, T v = 0) (hb : b.length ≤ 1048576) (hl : l.length ≤ 1048576) (h : ∀ v ∈ l, Near b.length v)
    (hx : allF l (0, 0, 0) b.length (if len then 1 else 0) = x) (hr : lenOf x len tagged b l ≤ most) : putF most T len tagged kind 0 l (b, 0) = (((kind, x, (b.length : Int) + padN b x + (if len then x else 0)), 0), (b ++ (pieces x len tagged b l).flatten, 0)) := by
  obtain ⟨_, _, hw, _⟩ := allF_near (n := b.length) (ahead := if len then 1 else 0) (by cases len <;> simp) (by omega) (by omega) hl h
  rw [putF_chain hT hb hl h]
  simp only [hx]
  rw [hx] at hw
  have hwp := isW_pos hw
  have hpl := length_pieces hw len tagged b l
  rw [chain_fit (pieces x len tagged b l) b (by omega)]
  have hmul : 0 ≤ x * (l.length : Int) := Int.mul_nonneg (by omega) (by omega)
  rw [if_neg (by simp), chain_fit _ b (by unfold lenOf at hr; cases len <;> cases tagged <;> simp [length_zeros, length_digB] at hr ⊢ <;> omega)]
  have hl2 : ((b ++ (zeros (padN b x) :: (if len then [digB x.toNat l.length] else [])).flatten).length : Int) = (b.length : Int) + padN b x + (if len then x else 0) := by
    cases len <;> simp [length_zeros, length_digB] <;> omega
  rw [hl2]
theorem putF_full {most : Int} {T : V3 → Int} {len tagged : Bool} {kind : Int} {b : List UInt8} {l : List V3} {x : Int} (hT : ∀ v ∈ l, T v = 0) (hb : b.length ≤ 1048576) (hbm : (b.length : Int) ≤ most) (hl : l.length ≤ 1048576) (h : ∀ v ∈ l, Near b.length v)
    (hx : allF l (0, 0, 0) b.length (if len then 1 else 0) = x) (hr : ¬ lenOf x len tagged b l ≤ most) : (putF most T len tagged kind 0 l (b, 0)).1 = ((0, 0, 0), 5) ∧ (putF most T len tagged kind 0 l (b, 0)).2.2 = 5 ∧ ((putF most T len tagged kind 0 l (b, 0)).2.1.length : Int) ≤ most := by
  obtain ⟨_, _, hw, _⟩ := allF_near (n := b.length) (ahead := if len then 1 else 0) (by cases len <;> simp) (by omega) (by omega) hl h
  rw [putF_chain hT hb hl h]
  simp only [hx]
  rw [hx] at hw
  have hpl := length_pieces hw len tagged b l
  obtain ⟨h5, hle⟩ := chain_full (pieces x len tagged b l) b hbm (by omega)
  rw [if_pos (by omega)]
  exact ⟨by rw [h5], h5, hle⟩
end Go.Proofs.Ytaoflhddcbmacaa
