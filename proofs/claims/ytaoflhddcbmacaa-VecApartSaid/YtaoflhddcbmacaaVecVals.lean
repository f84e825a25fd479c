/-
  Vectors: the law's values.
-/
import Derived.Test.YtaoflhddcbmacaaVecVal
namespace Go.Proofs.Ytaoflhddcbmacaa
open Go Go.ChangeShapes Go.WideShapes Go.ChangeAt Go.RowKit Go.Joins
open Go.Proofs.Ytaoflhddcbmacaa.Ft (V3 vV okV ValsAt inlineB legalB packF codeF typedF allF)
set_option linter.unusedVariables false
set_option linter.unusedSimpArgs false

def cellsV (v : V3) : List Value := [.int .i64 v.1, .int .i64 v.2.1, .int .u64 v.2.2]
def valCells (l : List V3) : List Value := l.flatMap cellsV
theorem length_valCells (l : List V3) : (valCells l).length = l.length * 3 := by
  induction l with
  | nil => rfl
  | cons v r ih => 
    have : valCells (v :: r) = cellsV v ++ valCells r := rfl
    rw [this, List.length_append, ih, List.length_cons]
    show 3 + _ = _
    omega
theorem valCells_append (l m : List V3) : valCells (l ++ m) = valCells l ++ valCells m := by simp [valCells]
theorem valCells_get (l : List V3) (i : Nat) (v : V3) (h : l[i]? = some v) : (valCells l)[i * 3]? = some (.int .i64 v.1) ∧ (valCells l)[i * 3 + 1]? = some (.int .i64 v.2.1) ∧ (valCells l)[i * 3 + 2]? = some (.int .u64 v.2.2) := by
  induction l generalizing i with
  | nil => simp at h
  | cons u r ih =>
    have e : valCells (u :: r) = .int .i64 u.1 :: .int .i64 u.2.1 :: .int .u64 u.2.2 :: valCells r := rfl
    rw [e]
    cases i with
    | zero => simp at h; subst h; simp
    | succ i =>
      have h2 := ih i (by simpa using h)
      rw [show (i + 1) * 3 = i * 3 + 1 + 1 + 1 by omega, show i * 3 + 1 + 1 + 1 + 1 = (i * 3 + 1) + 1 + 1 + 1 by omega, show i * 3 + 1 + 1 + 1 + 2 = (i * 3 + 2) + 1 + 1 + 1 by omega]
      simpa only [List.getElem?_cons_succ] using h2
/-- A row of values of one's own. -/
def OwnVals (w : World) (B : Nat) (v : Value) (l : List V3) : Prop := w.ownsRow B 28 3 v l.length (valCells l)
theorem OwnVals.vals {w : World} {B : Nat} {v : Value} {l : List V3} (h : OwnVals w B v l) : ValsAt w v l := by
  have h0 := h
  obtain ⟨_, h2⟩ := h
  rcases h2 with ⟨rfl, hn⟩ | ⟨g, cap, cur, rfl, _, _, hn, _⟩
  · have : l = [] := List.length_eq_zero_iff.1 hn
    subst this
    exact ⟨none, 0, rfl, fun i x hx => by simp at hx⟩
  · refine ⟨some ⟨g, 0, none⟩, cap, rfl, fun i x hx => ⟨g, 0, rfl, ?_⟩⟩
    have hi := (List.getElem?_eq_some_iff.1 hx).1
    obtain ⟨e0, e1, e2⟩ := valCells_get l i x hx
    have hc := World.ownsRow.cells h0 rfl
    have a : ∀ j, (⟨g, 0, none⟩ : Addr).add j = ⟨g, 0 + j, none⟩ := by
      intro j
      unfold Addr.add
      split
      · rename_i h; subst h; rfl
      · rfl
    have c0 := hc _ _ e0
    have c1 := hc _ _ e1
    have c2 := hc _ _ e2
    rw [a] at c0 c1 c2
    exact ⟨c0, c1, c2⟩
/-- A slice of pairs of numbers. -/
def PairsAt (w : World) (v : Value) (l : List (Int × Int)) : Prop :=
  ∃ a c, v = .slice a l.length c ∧ ∀ (i : Nat) (x : Int × Int), l[i]? = some x → ∃ b off, a = some ⟨b, off, none⟩ ∧ w.cell? ⟨b, off + i * 2, none⟩ = some (.int .i64 x.1) ∧ w.cell? ⟨b, off + i * 2 + 1, none⟩ = some (.int .i64 x.2)
theorem PairsAt.grew {w w' : World} {v : Value} {l : List (Int × Int)} (h : PairsAt w v l) (hg : Grew w w') : PairsAt w' v l := by
  obtain ⟨a, c, h1, h2⟩ := h
  refine ⟨a, c, h1, fun i x hx => ?_⟩
  obtain ⟨b, off, e, c0, c1⟩ := h2 i x hx
  exact ⟨b, off, e, hg.cell c0, hg.cell c1⟩
def valsF (l : List (Int × Int)) (a : Int) : List V3 := (l.take 300).map (valF · a)
theorem valsF_length (l : List (Int × Int)) (a : Int) : (valsF l a).length = min 300 l.length := by simp [valsF]
theorem valsF_all (l : List (Int × Int)) (a : Int) : valsF (l.take 300) a = valsF l a := by simp [valsF, List.take_take]
theorem valsF_snoc {l : List (Int × Int)} {k : Nat} {x : Int × Int} (h : l[k]? = some x) (hk : k < 300) (a : Int) : valsF (l.take k) a ++ [valF x a] = valsF (l.take (k + 1)) a := by
  obtain ⟨hl, hx⟩ := List.getElem?_eq_some_iff.1 h
  unfold valsF
  rw [List.take_take, List.take_take, Nat.min_eq_right (by omega : k ≤ 300), Nat.min_eq_right (by omega : k + 1 ≤ 300), List.take_succ_eq_append_getElem hl, List.map_append, hx]
  rfl
theorem Try.infoVal : (Try.prog.info? 28).map (fun i => (i.zero, i.size, i.bytes)) = some (some (.agg #[.int .i64 0, .int .i64 0, .int .u64 0]), 3, 24) := by kernel_rfl
theorem val_parts : ∃ i0, Try.prog.info? 28 = some i0 ∧ i0.zero = some (.agg #[.int .i64 0, .int .i64 0, .int .u64 0]) ∧ i0.size = 3 ∧ i0.bytes = 24 := by
  have h := Try.infoVal
  cases hq : Try.prog.info? 28 with
  | none => simp [hq] at h
  | some i => simp [hq] at h; exact ⟨i, rfl, h.1, h.2.1, h.2.2⟩
theorem vals_cells {w : World} {ad : Addr} {cap : Nat} {l : List V3} (h : ValsAt w (.slice (some ad) l.length cap) l) : ∀ j u, (valCells l)[j]? = some u → w.cell? (ad.add j) = some u := by
  obtain ⟨a0, c0, e, hc⟩ := h
  cases e
  intro j u hj
  have hjl : j < l.length * 3 := by rw [← length_valCells]; exact (List.getElem?_eq_some_iff.1 hj).1
  have hd : j / 3 < l.length := by omega
  have hq : j = j / 3 * 3 ∨ j = j / 3 * 3 + 1 ∨ j = j / 3 * 3 + 2 := by omega
  obtain ⟨x, hx⟩ : ∃ x, l[j / 3]? = some x := ⟨_, List.getElem?_eq_getElem hd⟩
  obtain ⟨b, off, e, d0, d1, d2⟩ := hc (j / 3) x hx
  cases e
  obtain ⟨e0, e1, e2⟩ := valCells_get l (j / 3) x hx
  generalize j / 3 = q at *
  have : (⟨b, off, none⟩ : Addr).add j = ⟨b, off + j, none⟩ := by
    unfold Addr.add
    split
    · rename_i h; subst h; rfl
    · rfl
  rw [this]
  rcases hq with h | h | h
  · rw [h] at hj; rw [e0] at hj; cases hj; rw [h]; exact d0
  · rw [h] at hj; rw [e1] at hj; cases hj; rw [h]; exact d1
  · rw [h] at hj; rw [e2] at hj; cases hj; rw [h]; exact d2
theorem valCells_one (l : List V3) : ∀ u ∈ valCells l, u.oneCell' = true := by
  intro u hu
  simp only [valCells, List.mem_flatMap, cellsV, List.mem_cons, List.not_mem_nil, or_false] at hu
  obtain ⟨x, _, rfl | rfl | rfl⟩ := hu <;> rfl
theorem wpList_appendV {ops : Array Oper} {rest : List Oper} {o : Oper} {a : Act} {w : World} {Q : Exit → Act → World → Prop} (hgd : o.guard = none) (s x : Operand)
    (ho : o.op = .call { callee := .builtin .append, args := #[s, x], argTypes := #[24, 24] }) (B : Nat) (v : Value) (l : List V3) (hs : a.eval s = v) (hown : OwnVals w B v l)
    (sv : Value) (l2 : List V3) (hx : a.eval x = sv) (hsv : ValsAt w sv l2) (hnil : ∀ c, sv = .slice none 0 c → c = 0) (hlen : l.length + l2.length ≤ 1048576) (hB : B ≤ w.heap.size)
    (h : ∀ v' w', OwnVals w' B v' (l ++ l2) → w.grownBy w' v.ownBlock → Next w v.ownBlock v'.ownBlock → wpList Try.prog ops Q rest (a.put o.dst v') w') : wpList Try.prog ops Q (o :: rest) a w := by
  obtain ⟨i0, hi, hz0, hz1, hz2⟩ := val_parts
  have hsv0 := hsv
  obtain ⟨sa, cap, rfl, hc⟩ := hsv
  cases sa with
  | none =>
    have h0 : l2 = [] := by
      cases l2 with
      | nil => rfl
      | cons y r => obtain ⟨b, off, e, _⟩ := hc 0 y rfl; cases e
    subst h0
    have := hnil cap rfl
    subst this
    refine wpList_append_own_none hgd s x 24 ho B 28 i0 3 Try.underlying24 hi v l.length _ hs hown hx ?_
    exact h v w (by rw [List.append_nil]; exact hown) ⟨rfl, rfl, rfl, Nat.le_refl _, fun _ _ _ => rfl⟩ (Next.refl _ _)
  | some ad =>
    obtain ⟨v', w', hr, h2, h3, h4⟩ := append_next (P := Try.prog) w B 24 o.type 28 i0 (.agg #[.int .i64 0, .int .i64 0, .int .u64 0]) 3 24 Try.underlying24 hi hz0 hz1 hz2 rfl (by decide) v l.length _ hown ad l2.length cap (valCells l2) (length_valCells l2) (vals_cells hsv0) (valCells_one l2) (by unfold maxLen; omega) (by omega) hB
    refine wpList_plain hgd fun _ hK => Lib.wp_append_run w s x 24 24 ho v _ hs hx v' w' hr (hK _ _ (h v' w' ?_ h3 h4))
    unfold OwnVals
    rw [List.length_append, valCells_append]
    exact h2
theorem own_grew {w w' : World} {B : Nat} {v : Value} {l : List V3} (h : OwnVals w B v l) (hg : Grew w w') : OwnVals w' B v l := Moved.owns (Moved.of_grew (S := fun _ => False) hg) h (fun _ _ h => h)
theorem vals_new (w : World) (x : V3) : ValsAt (w.alloc (.cells #[.int .i64 x.1, .int .i64 x.2.1, .int .u64 x.2.2] 28)) (.slice (some ⟨w.heap.size, 0, none⟩) 1 1) [x] := by
  have h := heap_alloc_new w (.cells #[.int .i64 x.1, .int .i64 x.2.1, .int .u64 x.2.2] 28)
  refine ⟨_, 1, rfl, fun i y hy => ?_⟩
  have hi : i = 0 := by have := (List.getElem?_eq_some_iff.1 hy).1; simp at this; omega
  subst hi
  simp at hy
  subst hy
  exact ⟨_, _, rfl, row_cell h 0 _ rfl, row_cell h 1 _ rfl, row_cell h 2 _ rfl⟩
theorem own_form {w : World} {B : Nat} {v : Value} {l : List V3} (h : OwnVals w B v l) : ∃ a c, v = .slice a l.length c ∧ (a = none → c = 0) := by
  rcases h.2 with ⟨rfl, hn⟩ | ⟨g, cap, cur, rfl, _, _, hn, _⟩
  · exact ⟨none, 0, by rw [hn], fun _ => rfl⟩
  · exact ⟨_, cap, rfl, fun h => by cases h⟩
theorem own_lt {w : World} {B : Nat} {v : Value} {l : List V3} (h : OwnVals w B v l) {ad : Addr} {n c : Nat} (e : v = .slice (some ad) n c) : ad.block < w.heap.size := by
  rcases h.2 with ⟨rfl, hn⟩ | ⟨g, cap, cur, rfl, _, hg, hn, _⟩
  · cases e
  · cases e; exact (Array.getElem?_eq_some_iff.1 hg).1
theorem own_ge {w : World} {B : Nat} {v : Value} {l : List V3} (h : OwnVals w B v l) {ad : Addr} {n c : Nat} (e : v = .slice (some ad) n c) : B ≤ ad.block := by
  rcases h.2 with ⟨rfl, hn⟩ | ⟨g, cap, cur, rfl, hb, hg, hn, _⟩
  · cases e
  · cases e; exact hb
theorem grew_own {w wr w' : World} {v : Value} {l : List V3} (h : OwnVals wr w.heap.size v l) (hg : Grew w wr) (hgr : wr.grownBy w' v.ownBlock) : Grew w w' := by
  have hgr2 : Moved (fun k => some k = v.ownBlock) wr w' := Moved.of_grown hgr
  refine ⟨hgr2.os.trans hg.os, hgr2.tape.trans hg.tape, hgr2.output.trans hg.output, Nat.le_trans hg.size hgr2.size, fun k hk => ?_⟩
  refine (hgr2.block k (Nat.lt_of_lt_of_le hk hg.size) fun e => ?_).trans (hg.block k hk)
  rcases h.2 with ⟨rfl, hn⟩ | ⟨g, cap, cur, rfl, hb, _, _⟩
  · cases e
  · have : k = g := by injection e
    omega
set_option maxRecDepth 100000 in
set_option maxHeartbeats 1000000 in
theorem values_any (a : Int) (lv : Value) (l : List (Int × Int)) (w : World) (hp : PairsAt w lv l) (h0 : 0 ≤ a) (h1 : a ≤ 4611686018427387904) (hl : l.length ≤ 9223372036854775807) : Calls Try.prog 9 #[lv, .int .i64 a] w fun r w' => ∃ v', r = .returned v' ∧ OwnVals w' w.heap.size v' (valsF l a) ∧ Grew w w' := by
  obtain ⟨ad, c, rfl, hcell⟩ := hp
  have HC := Lib.hid hcell
  clear hcell
  go_enter Try.func9, Try.ntmps9
  go_wp2_with fail
  go_loopw [5, 6] (fun v i wr => ∃ k : Nat, k ≤ l.length ∧ k ≤ 300 ∧ i = .int .i64 k ∧ Hid (OwnVals wr w.heap.size v (valsF (l.take k) a) ∧ Grew w wr)) (fun _ i _ => l.length - (intOf i).toNat)
  case atStart => exact ⟨0, Nat.zero_le _, by omega, rfl, by
    show _ ∧ _
    exact ⟨World.ownsRow_nil _ _ _ _, Grew.refl _⟩⟩
  case round =>
    obtain ⟨k, hk, hk2, rfl, HW⟩ := hrel
    by_cases hlt : k < l.length
    · by_cases h3 : k < 300
      · obtain ⟨x, hx⟩ : ∃ x, l[k]? = some x := ⟨_, List.getElem?_eq_getElem hlt⟩
        have HSN := Lib.hid (valsF_snoc hx h3 a)
        obtain ⟨b, off, rfl, c0, c1⟩ := HC.out k x hx
        clear hx
        have d0 := HW.out.2.cell c0
        have d1 := HW.out.2.cell c1
        obtain ⟨x0, x1⟩ := x
        simp only at d0 d1
        clear c0 c1
        have h3i : (k : Int) < 300 := by omega
        go_wp2_with fail
        refine (value_any (x0, x1) a wr h0 h1).mono ?_
        rintro r w2 ⟨rfl, hg⟩
        have HO := Lib.hid (show OwnVals w2 w.heap.size u5 (valsF (l.take k) a) from own_grew HW.out.1 hg)
        have HG := Lib.hid (HW.out.2.trans hg)
        obtain ⟨va, vc, rfl, hvc⟩ := own_form HO.out
        have HLN : Hid ((valsF (l.take k) a).length ≤ 300) := by show _ ≤ _; rw [valsF_length]; omega
        generalize valsF (l.take k) a = L at *
        generalize valF (x0, x1) a = X at *
        obtain ⟨X0, X1, X2⟩ := X
        clear hg HW
        have HO2 : Hid (∀ o, OwnVals (w2.alloc o) w.heap.size (.slice va L.length vc) L) := fun o => own_grew HO.out ((Grew.refl _).alloc o)
        go_wp2_with (at_builtin; refine wpList_appendV rfl _ _ rfl w.heap.size (.slice va L.length vc) L rfl (HO2.out _) _ [(X0, X1, X2)] rfl (vals_new _ _) (fun c h => by cases h) (by have := HLN.out; simp; omega) (Nat.le_trans HG.out.size (by simp)) ?_; intro v' w3 hown hgr hqq; obtain ⟨va2, vc2, rfl, _⟩ := own_form hown; have HG3 := Lib.hid (And.intro hown (grew_own (HO2.out _) (HG.out.alloc _) hgr)); clear hown hgr hqq)
        go_roundw
        case rel =>
          refine ⟨k + 1, by omega, by omega, by go_num, ?_⟩
          show _ ∧ _
          rw [← HSN.out]
          have hh := HG3.out
          rw [List.length_append] at hh
          exact hh
        case measure => simp [intOf]; omega
      · have ek : k = 300 := by omega
        subst ek
        have hw := HW.out
        have HE : Hid (OwnVals wr w.heap.size u5 (valsF l a) ∧ Grew w wr) := by
          show _ ∧ _
          rw [valsF_all] at hw
          exact hw
        clear hw HW
        go_wp2
        go_ret
        exact ⟨_, rfl, HE.out⟩
    · have ek : k = l.length := by omega
      subst ek
      have hw := HW.out
      have HE : Hid (OwnVals wr w.heap.size u5 (valsF l a) ∧ Grew w wr) := by
        show _ ∧ _
        rw [List.take_length] at hw
        exact hw
      clear hw HW
      go_wp2
      all_goals
        go_ret
        exact ⟨_, rfl, HE.out⟩
end Go.Proofs.Ytaoflhddcbmacaa
