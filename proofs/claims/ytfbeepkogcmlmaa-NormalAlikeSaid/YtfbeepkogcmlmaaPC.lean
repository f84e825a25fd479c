/-
  Texts of the proof, part 3 of 8.
-/
import Derived.Test.YtfbeepkogcmlmaaPB
import Derived.Deep.OwnRows
import Derived.Lib.IndexAny
import Derived.RangeFuncNested
import Derived.RangeFuncBound
import Derived.RangeFuncCalls
import Derived.RangeFuncLeaves
import Derived.Shelf.Abstract
import Derived.Shelf.RegionOpen
import Derived.OwnWalkIn
import Derived.TacticsInMore
import Derived.LoopNIn
import Derived.LoopIn
import Derived.Test.YtfbeepkogcmlmaaPA

/-
  Keys: Order. Conditions: the list lies in memory, at most 4096 keys.
-/
namespace Go.Proofs.Ytfbeepkogcmlmaa
open Go Go.ChangeShapes Go.WideShapes Go.ChangeAt Go.RowKit Go.Joins Go.Deep
set_option linter.unusedVariables false
set_option linter.unusedSimpArgs false

theorem Try.infoIntK : (Try.prog.info? 3).map (fun i => (i.zero, i.size, i.bytes)) = some (some (.int .i64 0), 1, 8) := by kernel_rfl
/-- The row of indices when k have been laid. -/
def upF (k j : Nat) : Value := if j < k then .int .i64 (j : Int) else .int .i64 0
/-- v holds the places of l's keys in increasing order. -/
def PlacesAt (w : World) (v : Value) (l : List ByteArray) : Prop :=
  ∃ (blk cap : Nat) (p : List (Fin l.length)), v = .slice (some ⟨blk, 0, none⟩) l.length cap ∧ p.Perm (List.finRange l.length) ∧ (∀ (i j : Nat) x y, i < j → p[i]? = some x → p[j]? = some y → ltS l[x] l[y] = true) ∧ (∀ (i : Nat) (x : Fin l.length), p[i]? = some x → w.cell? ⟨blk, i, none⟩ = some (.int .i64 ((x.1 : Nat) : Int))) ∧ cap = l.length
/-- What Order hands back. -/
def OrderOut (w : World) (l : List ByteArray) (r : Ending) (w' : World) : Prop :=
  Grew w w' ∧ ((¬ l.Nodup ∧ r = .returned (.tuple #[.slice none 0 0, .int .i64 71])) ∨ (l.Nodup ∧ ∃ v, r = .returned (.tuple #[v, .int .i64 0]) ∧ PlacesAt w' v l))
theorem perm_len {l : List ByteArray} {p : List (Fin l.length)} (h : p.Perm (List.finRange l.length)) : p.length = l.length := by rw [h.length_eq]; simp
theorem adj_nodup {l : List ByteArray} {p : List (Fin l.length)} (hp : p.Perm (List.finRange l.length)) {i : Nat} {x y : Fin l.length} (hx : p[i]? = some x) (hy : p[i + 1]? = some y) (e : l[x] = l[y]) : ¬ l.Nodup := by
  intro hn
  have hpn : p.Nodup := hp.nodup_iff.2 (List.nodup_finRange _)
  have hxy : x = y := by
    apply Fin.ext
    exact (List.getElem_inj hn).1 e
  have h1 := (List.getElem?_eq_some_iff.1 hx)
  have h2 := (List.getElem?_eq_some_iff.1 hy)
  obtain ⟨h1l, h1e⟩ := h1
  obtain ⟨h2l, h2e⟩ := h2
  have := (List.getElem_inj hpn (h₀ := h1l) (h₁ := h2l)).1 (by rw [h1e, h2e, hxy])
  omega
theorem adj_strict {l : List ByteArray} {p : List (Fin l.length)} (hs : ∀ (i j : Nat) x y, i < j → p[i]? = some x → p[j]? = some y → ltS l[y] l[x] = false) (ha : ∀ (i : Nat) x y, p[i]? = some x → p[i + 1]? = some y → ¬ l[x] = l[y]) :
    ∀ (i j : Nat) x y, i < j → p[i]? = some x → p[j]? = some y → ltS l[x] l[y] = true := by
  intro i j x y hij hx hy
  have step : ∀ (i : Nat) x y, p[i]? = some x → p[i + 1]? = some y → ltS l[x] l[y] = true := by
    intro i x y hx hy
    cases h : ltS l[x] l[y] with
    | true => rfl
    | false => exact absurd (ltS_total h (hs i (i + 1) x y (by omega) hx hy)) (ha i x y hx hy)
  induction j generalizing y with
  | zero => omega
  | succ j ih =>
    by_cases e : i = j
    · subst e; exact step i x y hx hy
    · have hj : j < p.length := by have := (List.getElem?_eq_some_iff.1 hy).1; omega
      exact ltS_trans (ih p[j] (by omega) (List.getElem?_eq_getElem hj) step) (step j p[j] y (List.getElem?_eq_getElem hj) hy)
theorem strict_nodup {l : List ByteArray} {p : List (Fin l.length)} (hp : p.Perm (List.finRange l.length)) (hs : ∀ (i j : Nat) x y, i < j → p[i]? = some x → p[j]? = some y → ltS l[x] l[y] = true) : l.Nodup := by
  refine List.pairwise_iff_getElem.2 fun i j hi hj hij he => ?_
  have mi : (⟨i, hi⟩ : Fin l.length) ∈ p := hp.mem_iff.2 (List.mem_finRange _)
  have mj : (⟨j, hj⟩ : Fin l.length) ∈ p := hp.mem_iff.2 (List.mem_finRange _)
  obtain ⟨a, ha, hae⟩ := List.mem_iff_getElem.1 mi
  obtain ⟨b, hb, hbe⟩ := List.mem_iff_getElem.1 mj
  have hab : a ≠ b := fun h => by subst h; rw [hae] at hbe; injection hbe with h; omega
  rcases Nat.lt_or_gt_of_ne hab with h | h
  · have := hs a b _ _ h (by rw [List.getElem?_eq_getElem ha, hae]) (by rw [List.getElem?_eq_getElem hb, hbe])
    have e2 : ltS l[i] l[j] = true := this
    rw [he, ltS_irrefl] at e2; cases e2
  · have := hs b a _ _ h (by rw [List.getElem?_eq_getElem hb, hbe]) (by rw [List.getElem?_eq_getElem ha, hae])
    have e2 : ltS l[j] l[i] = true := this
    rw [he, ltS_irrefl] at e2; cases e2
set_option maxRecDepth 100000 in
set_option maxHeartbeats 2000000 in
theorem order_any (l : List ByteArray) (hl : l.length ≤ 4096) (lv : Value) (w : World) (hs : StrsAt w lv l) :
    Calls Try.prog 61 #[lv] w fun r w' => OrderOut w l r w' := by
  have HS := Lib.hid hs
  obtain ⟨a, c, rfl, hz1, hz2, hz3, hz4⟩ := hs
  clear hz1 hz2 hz3 hz4
  have hmk := run_make_row' (P := Try.prog) 69 3 (.int .i64 0) 8 Try.underlying69 Try.infoIntK rfl .i64 .i64 l.length (by omega) (by omega)
  go_enter Try.func61, Try.ntmps61
  go_wp2_with fail
  have hbx := heap_alloc_new w (.cells #[.slice a l.length c] 23)
  have hg1 := (Grew.refl w).alloc (.cells #[.slice a l.length c] 23)
  have hs1 : (w.alloc (.cells #[.slice a l.length c] 23)).heap.size = w.heap.size + 1 := World.size_alloc _ _
  generalize (w.alloc (.cells #[.slice a l.length c] 23)) = w1 at *
  have hrow := World.rowIs_made w1 (.int .i64 0) l.length 3
  have hg2 := (Grew.refl w1).alloc (.cells (madeCells #[.int .i64 0] l.length) 3)
  rw [hs1] at hrow
  generalize (w1.alloc (.cells (madeCells #[.int .i64 0] l.length) 3)) = w2 at *
  obtain ⟨N, hN⟩ : ∃ N, w.heap.size = N := ⟨_, rfl⟩
  rw [hN] at hbx hrow ⊢
  have HBX := Lib.hid (hg2.heap hbx)
  have HG := Lib.hid (hg1.trans hg2)
  have HN := Lib.hid hN
  have HROW := Lib.hid hrow
  clear hmk hbx hg1 hg2 hs1 hrow hN
  go_loopw [12] (fun i wr => ∃ k : Nat, k ≤ l.length ∧ i = .int .i64 k ∧ Hid (wr.rowIs (N + 1) 3 l.length (upF k) ∧ Moved (fun g => g = N + 1) w2 wr)) (fun i _ => l.length - (intOf i).toNat)
  case atStart => exact ⟨0, Nat.zero_le _, rfl, by show _ ∧ _; exact ⟨HROW.out.congr (fun i _ => by simp [upF]), Moved.refl _ _⟩⟩
  case round =>
    obtain ⟨k, hk, rfl, HW⟩ := hrel
    by_cases hlt : k < l.length
    · have hc := HW.out.1.cell hlt
      have hf := HW.out.1.frozen k
      obtain ⟨u, hu⟩ : ∃ u, upF k k = .int .i64 u := ⟨0, by simp [upF]⟩
      rw [hu] at hc
      have hlti : (k : Int) < l.length := by omega
      go_wp2_with fail
      go_roundw
      case rel => exact ⟨k + 1, by omega, by go_num, by
        show _ ∧ _
        refine ⟨(HW.out.1.set k _).congr (fun i hi => ?_), HW.out.2.setCell (p := ⟨N + 1, k, none⟩) (fun _ => rfl) _⟩
        by_cases e : i = k
        · subst e; simp [upF]
        · simp only [upF, if_neg e]
          by_cases h : i < k
          · rw [if_pos h, if_pos (by omega)]
          · rw [if_neg h, if_neg (by omega)]⟩
      case measure => simp [intOf]; omega
    · obtain rfl : k = l.length := by omega
      have hm2 := HW.out.2
      have hgw : Grew w wr := Moved.fresh HG.out hm2 (fun g h => by have := HN.out; omega)
      have HGW := Lib.hid hgw
      have hbx : wr.heap[N]? = some (.cells #[.slice a l.length c] 23 (0, 0)) := hm2.heap HBX.out (by omega)
      have HBW := Lib.hid hbx
      have hsw : Hid (StrsAt wr (.slice a l.length c) l) := HS.out.grew hgw
      have hblk : Hid (N + 1 < wr.heap.size) := HW.out.1.lt
      have hlvb : Hid (∀ ad n c', Value.slice a l.length c = .slice (some ad) n c' → 0 < l.length → ad.block ≠ N + 1) := fun ad n c' e h0 => by
        injection e with e1 e2 e3
        obtain ⟨a', c'', e', _, _, _, h⟩ := HS.out
        injection e' with e1' _ _
        obtain ⟨_, b, off, e4, hc⟩ := h 0 l[0] (List.getElem?_eq_getElem h0)
        have hb := World.block_lt_of_cell? w _ hc
        have hN' := HN.out
        rw [← e1', e1] at e4
        injection e4 with e4
        subst e4
        simp only at hb ⊢
        omega
      have HROW2 : Hid (∀ j, j < l.length → wr.cell? ⟨N + 1, j, none⟩ = some (.int .i64 (j : Int)) ∧ wr.frozen? ⟨N + 1, j, none⟩ = false) := fun j hj => ⟨by rw [HW.out.1.cell hj]; simp [upF, hj], HW.out.1.frozen j⟩
      clear hm2 hgw hbx HW
      by_cases h0 : 0 < l.length
      · have HCALL : Hid (Calls Try.prog 69 #[.slice (some ⟨N + 1, 0, none⟩) l.length l.length, .func (.func 70) #[] #[.pointer (some ⟨N, 0, none⟩)]] wr _) := sortfunc_any l h0 (by omega) _ N (N + 1) wr hsw.out (row_cellT HBW.out 0 _ rfl) (by omega) (fun ad n c' e => hlvb.out ad n c' e h0) HROW2.out hblk.out l.length
        go_wp2_with fail
        refine HCALL.out.mono ?_
        rintro r w4 ⟨rfl, p, hp, hsd, hcl, hm4⟩
        have HP := Lib.hid hp
        have HSD := Lib.hid hsd
        have HCL := Lib.hid hcl
        have HG4 : Hid (Grew w w4) := Moved.fresh HGW.out hm4 (fun g h => by have := HN.out; omega)
        have HB4 := Lib.hid (hm4.heap HBW.out (by omega))
        have HPL : Hid (p.length = l.length) := perm_len hp
        clear hp hsd hcl hm4 HCALL hlvb HROW2 hsw
        go_wp2_with fail
        go_loopw [6] (fun i wr' => ∃ q : Nat, q < l.length ∧ i = .int .i64 ((q : Int) + 1) ∧ Hid ((∀ (i : Nat) x y, i + 1 < q + 1 → p[i]? = some x → p[i + 1]? = some y → ¬ l[x] = l[y]) ∧ Grew w4 wr')) (fun i _ => l.length - (intOf i).toNat)
        case atStart => exact ⟨0, h0, rfl, by show _ ∧ _; exact ⟨fun i x y h => by omega, Grew.refl _⟩⟩
        case round =>
          obtain ⟨q, hq, rfl, HW⟩ := hrel
          by_cases hlt : q + 1 < l.length
          · obtain ⟨x, hx⟩ : ∃ x, p[q]? = some x := ⟨_, List.getElem?_eq_getElem (by have := HPL.out; omega)⟩
            obtain ⟨y, hy⟩ : ∃ y, p[q + 1]? = some y := ⟨_, List.getElem?_eq_getElem (by have := HPL.out; omega)⟩
            have c1 := HW.out.2.cell (HCL.out q x hx)
            have c2 := HW.out.2.cell (HCL.out (q + 1) y hy)
            have bc := row_cellT (HW.out.2.heap HB4.out) 0 _ rfl
            obtain ⟨xi, hxl⟩ := x
            obtain ⟨yi, hyl⟩ := y
            obtain ⟨b, off, rfl, s1⟩ : ∃ b off, a = some ⟨b, off, none⟩ ∧ wr.cell? ⟨b, off + xi, none⟩ = some (.string l[xi]) := by
              obtain ⟨a', c', e', _, _, _, h⟩ := HS.out
              injection e' with e1 _ _
              obtain ⟨_, b, off, e4, hc⟩ := h xi l[xi] (List.getElem?_eq_getElem hxl)
              exact ⟨b, off, by rw [e1, e4], (HG4.out.trans HW.out.2).cell hc⟩
            have s2 : wr.cell? ⟨b, off + yi, none⟩ = some (.string l[yi]) := by
              obtain ⟨a', c', e', _, _, _, h⟩ := HS.out
              injection e' with e1 _ _
              obtain ⟨_, b', off', e4, hc⟩ := h yi l[yi] (List.getElem?_eq_getElem hyl)
              rw [← e1] at e4
              injection e4 with e4
              cases e4
              exact (HG4.out.trans HW.out.2).cell hc
            have HXY := Lib.hid (And.intro hx hy)
            obtain ⟨sx, hsx⟩ : ∃ s, l[xi] = s := ⟨_, rfl⟩
            obtain ⟨sy, hsy⟩ : ∃ s, l[yi] = s := ⟨_, rfl⟩
            rw [hsx] at s1
            rw [hsy] at s2
            have HSX := Lib.hid (And.intro hsx hsy)
            have hxi : (xi : Int) < l.length := by omega
            have hyi : (yi : Int) < l.length := by omega
            have hqi : (q : Int) + 1 < l.length := by omega
            have hqi2 : (q : Int) < l.length := by omega
            have hw1 : IntKind.i64.wrap ((q : Int) + 1 - 1) = q := by rw [IntKind.wrap_i64]; omega
            clear hx hy hsx hsy
            by_cases hxy : sx = sy
            · have hne : Hid (¬ l.Nodup) := adj_nodup HP.out HXY.out.1 HXY.out.2 (by show l[xi] = l[yi]; rw [HSX.out.1, HSX.out.2, hxy])
              have hbe : (sx.toList == sy.toList) = true := by rw [str_eq]; exact decide_eq_true hxy
              clear hxy
              go_wp2_with fail
              go_quiet (fail)
              go_wp2_with fail
              go_ret2
              exact ⟨(HG4.out.trans HW.out.2).drewN _, .inl ⟨hne.out, rfl⟩⟩
            · have hbe : (sx.toList == sy.toList) = false := by rw [str_eq]; exact decide_eq_false hxy
              have HNE := Lib.hid hxy
              clear hxy
              go_wp2_with fail
              go_quiet (fail)
              go_wp2_with fail
              go_roundw
              case rel => exact ⟨q + 1, by omega, by go_num, by
                show _ ∧ _
                refine ⟨fun i x y hi hx hy => ?_, HW.out.2.drewN _⟩
                by_cases e : i = q
                · subst e
                  rw [HXY.out.1] at hx
                  rw [HXY.out.2] at hy
                  injection hx with hx
                  injection hy with hy
                  subst hx hy
                  show ¬ l[xi] = l[yi]
                  rw [HSX.out.1, HSX.out.2]
                  exact HNE.out
                · exact HW.out.1 i x y (by omega) hx hy⟩
              case measure => simp [intOf]; omega
          · have hge : ¬ (q : Int) + 1 < l.length := by omega
            have hst : Hid (∀ (i j : Nat) x y, i < j → p[i]? = some x → p[j]? = some y → ltS l[x] l[y] = true) := adj_strict HSD.out (fun i x y hx hy => HW.out.1 i x y (by have := (List.getElem?_eq_some_iff.1 hy).1; have := HPL.out; omega) hx hy)
            go_wp2_with fail
            go_ret2
            exact ⟨HG4.out.trans HW.out.2, .inr ⟨strict_nodup HP.out hst.out, _, rfl, N + 1, l.length, p, rfl, HP.out, hst.out, fun i x hx => HW.out.2.cell (HCL.out i x hx), rfl⟩⟩
      · obtain rfl : l = [] := List.length_eq_zero_iff.1 (by omega)
        go_wp2_with fail
        refine (Try.slices_SortFunc_none (α := Nat) _ _ _ _).mono ?_
        rintro r w4 ⟨rfl, rfl⟩
        go_wp2_with fail
        go_loopw [6] (fun i wr' => i = .int .i64 1 ∧ Hid (Grew w wr')) (fun _ _ => 0)
        case atStart => exact ⟨rfl, HGW.out⟩
        case round =>
        obtain ⟨rfl, HW⟩ := hrel
        go_wp2_with fail
        go_ret2
        exact ⟨HW.out, .inr ⟨by simp, _, rfl, N + 1, 0, [], rfl, by simp, by simp, by simp, rfl⟩⟩
end Go.Proofs.Ytfbeepkogcmlmaa

/-
  Keys: Check, Less. Conditions: none.
-/
namespace Go.Proofs.Ytfbeepkogcmlmaa
open Go Go.ChangeShapes Go.WideShapes Go.ChangeAt Go.RowKit Go.Joins Go.Deep
set_option linter.unusedVariables false
set_option linter.unusedSimpArgs false

end Go.Proofs.Ytfbeepkogcmlmaa

/-
  Keys: Find. Conditions: the list lies in memory.
-/
namespace Go.Proofs.Ytfbeepkogcmlmaa
open Go Go.ChangeShapes Go.WideShapes Go.ChangeAt Go.RowKit Go.Joins Go.Deep
set_option linter.unusedVariables false
set_option linter.unusedSimpArgs false

end Go.Proofs.Ytfbeepkogcmlmaa

/-
  Keys: the reference's Less. Conditions: none beyond the lengths.
-/
namespace Go.Proofs.Ytfbeepkogcmlmaa
open Go Go.ChangeShapes Go.WideShapes Go.ChangeAt Go.RowKit Go.Joins Go.Deep
set_option linter.unusedVariables false
set_option linter.unusedSimpArgs false

/-- Where two lists first differ. -/
theorem cmpB_take (a b : List UInt8) (k : Nat) (h : a.take k = b.take k) : cmpB a b = cmpB (a.drop k) (b.drop k) := by
  induction k generalizing a b with
  | zero => simp
  | succ k ih =>
    cases a with
    | nil => cases b with
      | nil => simp
      | cons y b => simp at h
    | cons x a => cases b with
      | nil => simp at h
      | cons y b =>
        simp at h
        obtain ⟨rfl, h⟩ := h
        show (if x < x then (-1 : Int) else if x < x then 1 else cmpB a b) = cmpB (a.drop k) (b.drop k)
        rw [if_neg (UInt8.lt_irrefl x), if_neg (UInt8.lt_irrefl x), ih a b h]
theorem ba_get (a : ByteArray) (k : Nat) (h : k < a.size) : a.data.toList[k]? = some a[k] := by
  rw [List.getElem?_eq_getElem (by simpa using h)]; rfl
theorem ba_len (a : ByteArray) : a.data.toList.length = a.size := by simp
theorem ltS_at (a b : ByteArray) (k : Nat) (h1 : k < a.size) (h2 : k < b.size) (ht : a.data.toList.take k = b.data.toList.take k) (hne : ¬ a[k] = b[k]) : ltS a b = decide ((a[k].toNat : Int) < (b[k].toNat : Int)) := by
  unfold ltS
  rw [cmpB_take _ _ k ht]
  obtain ⟨hl1, e1⟩ := List.getElem?_eq_some_iff.1 (ba_get a k h1)
  obtain ⟨hl2, e2⟩ := List.getElem?_eq_some_iff.1 (ba_get b k h2)
  rw [List.drop_eq_getElem_cons hl1, List.drop_eq_getElem_cons hl2, e1, e2]
  show decide ((if a[k] < b[k] then (-1 : Int) else if b[k] < a[k] then 1 else _) < 0) = _
  have hnn : ¬ a[k].toNat = b[k].toNat := fun e => hne (UInt8.toNat_inj.1 e)
  by_cases h : a[k] < b[k]
  · have := UInt8.lt_iff_toNat_lt.1 h
    rw [if_pos h, decide_eq_true (by omega), decide_eq_true (by omega)]
  · have h' : ¬ a[k].toNat < b[k].toNat := fun e => h (UInt8.lt_iff_toNat_lt.2 e)
    rw [if_neg h, if_pos (UInt8.lt_iff_toNat_lt.2 (by omega)), decide_eq_false (by omega), decide_eq_false (by omega)]
theorem ltS_end (a b : ByteArray) (k : Nat) (h1 : k ≤ a.size) (h2 : k ≤ b.size) (ht : a.data.toList.take k = b.data.toList.take k) (hk : k = a.size ∨ k = b.size) : ltS a b = decide ((a.size : Int) < (b.size : Int)) := by
  unfold ltS
  rw [cmpB_take _ _ k ht]
  by_cases ha : k = a.size
  · rw [List.drop_eq_nil_iff.2 (by rw [ba_len]; omega)]
    cases hd : b.data.toList.drop k with
    | nil =>
      have := List.drop_eq_nil_iff.1 hd
      rw [ba_len] at this
      rw [decide_eq_false (by simp [cmpB, Lib.compareBytes]), decide_eq_false (by omega)]
    | cons y r =>
      have hlt : k < b.size := by
        have h3 := congrArg List.length hd
        rw [List.length_drop, ba_len] at h3
        simp at h3; omega
      rw [decide_eq_true (by simp [cmpB, Lib.compareBytes]), decide_eq_true (by omega)]
  · have hkb : k = b.size := by omega
    rw [List.drop_eq_nil_iff.2 (show b.data.toList.length ≤ k by rw [ba_len]; omega)]
    have : ¬ cmpB (a.data.toList.drop k) [] < 0 := by cases a.data.toList.drop k <;> simp [cmpB, Lib.compareBytes]
    rw [decide_eq_false this, decide_eq_false (by omega)]
theorem drewN_more {w wr : World} {n : Nat} (h : ∃ q, wr = w.drewN q) : ∃ q, wr.drewN n = w.drewN q := by
  obtain ⟨q, rfl⟩ := h
  exact ⟨q + n, by simp [World.drewN, Nat.add_assoc]⟩
set_option maxRecDepth 100000 in
set_option maxHeartbeats 1000000 in
theorem rless_any (a b : ByteArray) (w : World) (ha : lenok a.size) (hb : lenok b.size) : Calls Try.prog 74 #[.string a, .string b] w fun r w' => r = .returned (.bool (ltS a b)) ∧ ∃ q, w' = w.drewN q := by
  unfold lenok at ha hb
  go_enter Try.func74, Try.ntmps74
  go_wp2_with fail
  go_loopw [5] (fun i wr => ∃ k : Nat, k ≤ a.size ∧ k ≤ b.size ∧ i = .int .i64 k ∧ Hid (a.data.toList.take k = b.data.toList.take k ∧ ∃ q, wr = w.drewN q)) (fun i _ => a.size - (intOf i).toNat)
  case atStart => exact ⟨0, by omega, by omega, rfl, by show _ ∧ _; exact ⟨by simp, 0, rfl⟩⟩
  case round =>
    obtain ⟨k, hka, hkb, rfl, HW⟩ := hrel
    by_cases h1 : k < a.size
    · by_cases h2 : k < b.size
      · have h1i : (k : Int) < a.size := by omega
        have h2i : (k : Int) < b.size := by omega
        by_cases hxy : a[k] = b[k]
        · have HXY := Lib.hid hxy
          have hq : ((a[k].toNat : Int) != (b[k].toNat : Int)) = false := by rw [hxy]; simp
          clear hxy
          go_wp2_with fail
          go_quiet (fail)
          go_wp2_with fail
          go_roundw
          case rel => exact ⟨k + 1, by omega, by omega, by go_num, by
            show _ ∧ _
            exact ⟨by rw [List.take_add_one, List.take_add_one, HW.out.1, ba_get a k h1, ba_get b k h2, HXY.out], drewN_more HW.out.2⟩⟩
          case measure => simp [intOf]; omega
        · have HL : Hid (ltS a b = decide (a[k].toNat < b[k].toNat)) := by show _ = _; rw [ltS_at a b k h1 h2 HW.out.1 hxy]; simp only [Int.ofNat_lt]
          have hq : ((a[k].toNat : Int) != (b[k].toNat : Int)) = true := by
            simp only [bne_iff_ne, ne_eq, Int.natCast_inj]
            exact fun e => hxy (UInt8.toNat_inj.1 e)
          clear hxy
          go_wp2_with fail
          go_quiet (fail)
          go_wp2_with fail
          go_quiet (fail)
          go_wp2_with fail
          go_ret
          exact ⟨by rw [HL.out]; rfl, drewN_more (drewN_more HW.out.2)⟩
      · have HL : Hid (ltS a b = decide (a.size < b.size)) := by show _ = _; rw [ltS_end a b k hka hkb HW.out.1 (by omega)]; simp only [Int.ofNat_lt]
        have h1i : (k : Int) < a.size := by omega
        have h2i : ¬ (k : Int) < b.size := by omega
        go_wp2_with fail
        go_ret
        exact ⟨by rw [HL.out]; rfl, HW.out.2⟩
    · have HL : Hid (ltS a b = decide (a.size < b.size)) := by show _ = _; rw [ltS_end a b k hka hkb HW.out.1 (by omega)]; simp only [Int.ofNat_lt]
      have h1i : ¬ (k : Int) < a.size := by omega
      go_wp2_with fail
      go_ret
      exact ⟨by rw [HL.out]; rfl, HW.out.2⟩
end Go.Proofs.Ytfbeepkogcmlmaa

/-
  Keys: the reference's Find. Conditions: the list lies in memory.
-/
namespace Go.Proofs.Ytfbeepkogcmlmaa
open Go Go.ChangeShapes Go.WideShapes Go.ChangeAt Go.RowKit Go.Joins Go.Deep
set_option linter.unusedVariables false
set_option linter.unusedSimpArgs false

end Go.Proofs.Ytfbeepkogcmlmaa

/-
  Keys: the reference's Zero and Check. Conditions: the string's length fits.
-/
namespace Go.Proofs.Ytfbeepkogcmlmaa
open Go Go.ChangeShapes Go.WideShapes Go.ChangeAt Go.RowKit Go.Joins Go.Deep
set_option linter.unusedVariables false
set_option linter.unusedSimpArgs false

theorem ba_snoc (s : ByteArray) (k : Nat) (h : k < s.size) : s.data.toList.take (k + 1) = s.data.toList.take k ++ [s[k]] := by
  rw [List.take_add_one, ba_get s k h]; rfl
set_option maxRecDepth 100000 in
set_option maxHeartbeats 1000000 in
theorem rzero_any (s : ByteArray) (w : World) (hs : lenok s.size) : Calls Try.prog 73 #[.string s] w fun r w' => r = .returned (.bool (zeroB s)) ∧ w' = w := by
  unfold lenok at hs
  go_enter Try.func73, Try.ntmps73
  go_wp2_with fail
  go_loop [3] (fun i => ∃ k : Nat, k ≤ s.size ∧ i = .int .i64 k ∧ Hid ((0 : UInt8) ∉ s.data.toList.take k)) (fun i => s.size - (intOf i).toNat)
  case atStart => exact ⟨0, Nat.zero_le _, rfl, by show _ ∉ _; simp⟩
  case round =>
    obtain ⟨k, hk, rfl, HW⟩ := hrel
    by_cases hlt : k < s.size
    · have hlti : (k : Int) < s.size := by omega
      by_cases h0 : s[k] = 0
      · have HZ : Hid (zeroB s = true) := by
          show _ = _
          exact decide_eq_true (List.mem_of_getElem? (by rw [ba_get s k hlt, h0]))
        have hq : ((s[k].toNat : Int) == 0) = true := by rw [h0]; rfl
        clear h0
        go_wp2_with fail
        go_ret
        exact ⟨by rw [HZ.out]; rfl, rfl⟩
      · have hq : ((s[k].toNat : Int) == 0) = false := by
          simp only [beq_eq_false_iff_ne, ne_eq]
          exact fun e => h0 (UInt8.toNat_inj.1 (by simpa using e))
        have HN := Lib.hid h0
        clear h0
        go_wp2_with fail
        go_round
        case rel => exact ⟨k + 1, by omega, by go_num, by
          show _ ∉ _
          rw [ba_snoc s k hlt]
          intro hm
          rcases List.mem_append.1 hm with hm | hm
          · exact HW.out hm
          · simp at hm; exact HN.out hm.symm⟩
        case measure => simp [intOf]; omega
    · have HZ : Hid (zeroB s = false) := by
        show _ = _
        have h := HW.out
        rw [List.take_of_length_le (by rw [ba_len]; omega)] at h
        exact decide_eq_false h
      go_wp2_with fail
      go_ret
      exact ⟨by rw [HZ.out]; rfl, rfl⟩
end Go.Proofs.Ytfbeepkogcmlmaa

/-
  Keys: comparing lists of ints.
-/
namespace Go.Proofs.Ytfbeepkogcmlmaa
open Go Go.ChangeShapes Go.WideShapes Go.ChangeAt Go.RowKit Go.Joins Go.Deep
set_option linter.unusedVariables false
set_option linter.unusedSimpArgs false

/-- A slice of ints, read. -/
def RowI (w : World) (v : Value) (l : List Int) : Prop :=
  ∃ a c, v = .slice a l.length c ∧ l.length ≤ c ∧ lenok c ∧ (a = none → c = 0) ∧ ∀ (i : Nat) (x : Int), l[i]? = some x → True ∧ ∃ b off, a = some ⟨b, off, none⟩ ∧ w.cell? ⟨b, off + i, none⟩ = some (.int .i64 x)
end Go.Proofs.Ytfbeepkogcmlmaa

/-
  Trees: whether a node is as its kind requires (such). Conditions: the node lies in memory.
-/
namespace Go.Proofs.Ytfbeepkogcmlmaa
open Go Go.ChangeShapes Go.WideShapes Go.ChangeAt Go.RowKit Go.Joins Go.Deep
set_option linter.unusedVariables false
set_option linter.unusedSimpArgs false

/-- The program's rule for a node (P6.1 but for a child of Kind -1). -/
def suchB : Tr → Bool
  | .mk k n u s keys l => decide (1 ≤ k ∧ k ≤ 17) && (decide (usesF k = 1) || decide (n = 0)) && (decide (usesF k = 2) || decide (u = 0)) && (decide (usesF k = 4) || decide (s.toList = [])) && (decide (usesF k = 8) || decide (keys.length = 0)) &&
      (!decide (k = 2) || decide (n = 0) || decide (n = 1)) && (!decide (k = 17) || decide (keys.length = l.length)) && (!(decide (k = 15) || decide (k = 16)) || decide (2 ≤ l.length ∧ l.length ≤ 4)) && !(l.any (otherB (partF k)))
set_option maxRecDepth 100000 in
set_option maxHeartbeats 8000000 in
theorem such_any (t : Tr) (v : Value) (w : World) (hn : NodeAt w t v) :
    Calls Try.prog 36 #[v] w fun r w' => r = .returned (.bool (suchB t)) ∧ Grew w w' := by
  obtain ⟨k, n, u, s, keys, l⟩ := t
  simp only [NodeAt] at hn
  obtain ⟨hb, kv, lv, vs, rfl, hks, hrows, hkids⟩ := hn
  have hkl := hkids.length
  have HK := Lib.hid hkids
  obtain ⟨a4, c4, rfl, hkc, hkm, hx3, hx4⟩ := hks
  have HROWS := Lib.hid hrows
  obtain ⟨a5, c5, rfl, hll, hc5, hx5, hx6⟩ := hrows
  rw [hkl] at HROWS hll ⊢
  have hlen : l.length ≤ 9223372036854775807 := by unfold lenok at hc5; omega
  have hkeys : keys.length ≤ 9223372036854775807 := by unfold lenok at hkm; omega
  clear hx3 hx4 hx5 hx6 hll hc5 hkl hkids hkc hkm hb
  by_cases h1 : 1 ≤ k
  rotate_left
  · have HF : Hid (suchB (.mk k n u s keys l) = false) := by show _ = _; simp [suchB, h1]
    have hlt : k < 1 := by omega
    clear h1
    go_enter Try.func36, Try.ntmps36
    go_wp2_with fail
    go_ret
    exact ⟨by rw [HF.out]; rfl, (Grew.refl w).alloc _⟩
  by_cases h2 : k ≤ 17
  rotate_left
  · have HF : Hid (suchB (.mk k n u s keys l) = false) := by show _ = _; simp [suchB, h2]
    have hlt : ¬ k < 1 := by omega
    have hgt : 17 < k := by omega
    clear h1 h2
    go_enter Try.func36, Try.ntmps36
    go_wp2_with fail
    go_ret
    exact ⟨by rw [HF.out]; rfl, (Grew.refl w).alloc _⟩
  have hlt : ¬ k < 1 := by omega
  have hgt : ¬ 17 < k := by omega
  have H12 := Lib.hid (And.intro h1 h2)
  clear h1 h2
  go_enter Try.func36, Try.ntmps36
  go_wp2_with fail
  have hb1 := heap_alloc_new w (.cells #[.int .i64 k, .int .i64 n, .int .u64 u, .string s, .slice a4 keys.length c4, .slice a5 l.length c5] 26)
  have hg1 := (Grew.refl w).alloc (.cells #[.int .i64 k, .int .i64 n, .int .u64 u, .string s, .slice a4 keys.length c4, .slice a5 l.length c5] 26)
  generalize (w.alloc (.cells #[.int .i64 k, .int .i64 n, .int .u64 u, .string s, .slice a4 keys.length c4, .slice a5 l.length c5] 26)) = w1 at *
  obtain ⟨N, hN⟩ : ∃ N, w.heap.size = N := ⟨_, rfl⟩
  rw [hN] at hb1 ⊢
  clear hN
  have HB1 := Lib.hid hb1
  have HG := Lib.hid hg1
  have c0 := row_cellT hb1 0 _ rfl
  clear hb1 hg1 hlt hgt
  refine wp_region_last Grew [[], [0], [1], [], [3], [4], [], [2], [5, 6]] [[(16, 2), (17, 3), (18, 4), (19, 5), (4, 6), (3, 7)], [(14, 0), (17, 3), (18, 4), (19, 5), (4, 6), (3, 7)], [(14, 0), (15, 1), (17, 3), (18, 4), (19, 5), (4, 6)], [(14, 0), (15, 1), (16, 2), (19, 5), (4, 6), (3, 7)], [(14, 0), (15, 1), (16, 2), (17, 3), (4, 6), (3, 7)], [(14, 0), (15, 1), (16, 2), (17, 3), (18, 4), (4, 6), (3, 7)], [(14, 0), (15, 1), (16, 2), (17, 3), (18, 4), (19, 5), (3, 7)], [(14, 0), (15, 1), (16, 2), (17, 3), (18, 4), (19, 5), (4, 6)], [(14, 0), (15, 1), (16, 2), (17, 3), (18, 4), (19, 5), (4, 6), (3, 7)]]
    [Is (.pointer (some ⟨N, 0, none⟩)), Is (.int .i64 k), Is (.int .i64 (usesF k)), Is (.pointer (some ⟨N, 0, none⟩)), Is (.int .i64 k), Is (.int .i64 (partF k)), fun v w => ∃ g, v = .pointer (some ⟨g, 0, none⟩) ∧ w1.heap.size ≤ g ∧ w.heap[g]? = some (.cells #[.int .i64 0] 3 (0, 0)), Is (.int .i64 (usesF k))]
    (by kernel_rfl) Grew.trans Grew.refl (Grew.refl _).drew (by kernel_rfl) ⟨is_st, is_st, is_st, is_st, is_st, is_st, fun _ _ _ hg h => h.elim fun q h => ⟨q, h.1, h.2.1, hg.heap h.2.2⟩, is_st, trivial⟩ rfl ⟨?_, ?_, ?_, ?_, ?_, ?_, ?_, ?_, trivial⟩ ?_ rfl
  · intro y w2' hG hD K hK
    simp only [fillL, Act.put, List.setIfInBounds_toArray, List.set_cons_zero, List.set_cons_succ, List.getD_cons_zero, List.getD_cons_succ, Is] at hK ⊢
    refine ite_yes (by rfl) ?_
    go_simp
    exact hK _ _ _ rfl (Grew.refl _) rfl
  · intro y w2' hG hD K hK
    simp only [depsH, List.getD_cons_zero, List.getD_cons_succ, Is, and_true] at hD
    have h0 := hD
    clear hD
    have dc0 := hG.cell c0
    simp only [fillL, Act.put, List.setIfInBounds_toArray, List.set_cons_zero, List.set_cons_succ, List.getD_cons_zero, List.getD_cons_succ, Is] at hK ⊢
    rw [h0] at hK ⊢
    clear h0
    refine ite_yes (by rfl) ?_
    go_simp
    exact hK _ _ _ rfl (Grew.refl _) rfl
  · intro y w2' hG hD K hK
    simp only [depsH, List.getD_cons_zero, List.getD_cons_succ, Is, and_true] at hD
    have h1 := hD
    clear hD
    simp only [fillL, Act.put, List.setIfInBounds_toArray, List.set_cons_zero, List.set_cons_succ, List.getD_cons_zero, List.getD_cons_succ, Is] at hK ⊢
    rw [h1] at hK ⊢
    clear h1
    refine ite_yes (by rfl) ?_
    go_simp
    refine (uses_any k _ H12.out.1 H12.out.2).mono ?_
    rintro r w3 ⟨rfl, rfl⟩
    exact hK _ _ _ rfl (Grew.refl _) rfl
  · intro y w2' hG hD K hK
    simp only [fillL, Act.put, List.setIfInBounds_toArray, List.set_cons_zero, List.set_cons_succ, List.getD_cons_zero, List.getD_cons_succ, Is] at hK ⊢
    refine ite_yes (by rfl) ?_
    go_simp
    exact hK _ _ _ rfl (Grew.refl _) rfl
  · intro y w2' hG hD K hK
    simp only [depsH, List.getD_cons_zero, List.getD_cons_succ, Is, and_true] at hD
    have h3 := hD
    clear hD
    have dc0 := hG.cell c0
    simp only [fillL, Act.put, List.setIfInBounds_toArray, List.set_cons_zero, List.set_cons_succ, List.getD_cons_zero, List.getD_cons_succ, Is] at hK ⊢
    rw [h3] at hK ⊢
    clear h3
    refine ite_yes (by rfl) ?_
    go_simp
    exact hK _ _ _ rfl (Grew.refl _) rfl
  · intro y w2' hG hD K hK
    simp only [depsH, List.getD_cons_zero, List.getD_cons_succ, Is, and_true] at hD
    have h4 := hD
    clear hD
    simp only [fillL, Act.put, List.setIfInBounds_toArray, List.set_cons_zero, List.set_cons_succ, List.getD_cons_zero, List.getD_cons_succ, Is] at hK ⊢
    rw [h4] at hK ⊢
    clear h4
    refine ite_yes (by rfl) ?_
    go_simp
    refine (part_any k _ H12.out.1 H12.out.2).mono ?_
    rintro r w3 ⟨rfl, rfl⟩
    exact hK _ _ _ rfl (Grew.refl _) rfl
  · intro y w2' hG hD K hK
    simp only [fillL, Act.put, List.setIfInBounds_toArray, List.set_cons_zero, List.set_cons_succ, List.getD_cons_zero, List.getD_cons_succ, Is] at hK ⊢
    refine ite_yes (by rfl) ?_
    go_simp
    exact hK _ _ _ rfl ((Grew.refl _).alloc _) ⟨_, rfl, hG.size, heap_alloc_new _ _⟩
  · intro y w2' hG hD K hK
    simp only [depsH, List.getD_cons_zero, List.getD_cons_succ, Is, and_true] at hD
    have h2 := hD
    clear hD
    simp only [fillL, Act.put, List.setIfInBounds_toArray, List.set_cons_zero, List.set_cons_succ, List.getD_cons_zero, List.getD_cons_succ, Is] at hK ⊢
    rw [h2] at hK ⊢
    clear h2
    refine ite_yes (by rfl) ?_
    go_simp
    exact hK _ _ _ rfl (Grew.refl _) rfl
  · intro y w2' hG hF K hK
    simp only [factsH, Is, and_true, Nat.reduceAdd] at hF
    have h0 := hF.1
    have h1 := hF.2.1
    have h2 := hF.2.2.1
    have h3 := hF.2.2.2.1
    have h4 := hF.2.2.2.2.1
    have h5 := hF.2.2.2.2.2.1
    have h6 := hF.2.2.2.2.2.2.1
    have h7 := hF.2.2.2.2.2.2.2
    clear hF
    simp only [lastOf]
    simp only [fillL, Act.put, List.setIfInBounds_toArray, List.set_cons_zero, List.set_cons_succ, List.getD_cons_zero, List.getD_cons_succ, Is] at hK ⊢
    rw [h0, h1, h2, h3, h4, h5, h7]
    clear h0 h1 h2 h3 h4 h5 h7
    refine ite_yes (by rfl) ?_
    refine Exists.elim h6 fun g h => ?_
    have hs6 := h.1
    have hgB := h.2.1
    have hrow := h.2.2
    clear h h6
    rw [hs6]
    clear hs6
    have f0 := row_frozen hrow 0
    have d0 := row_cellT hrow 0 _ rfl
    have hrow2 : (w2'.setCell ⟨g, 0, none⟩ (.int .i64 (partF k))).heap[g]? = some (.cells #[.int .i64 (partF k)] 3 (0, 0)) := by have := heap_setCell_same w2' g 0 _ _ (.int .i64 (partF k)) hrow; simpa using this
    have hmv : Moved (fun q => q = g) w2' (w2'.setCell ⟨g, 0, none⟩ (.int .i64 (partF k))) := Moved.setCell (S := fun q => q = g) (p := ⟨g, 0, none⟩) (Moved.refl _ w2') (fun _ => rfl) _
    have hgr : Grew w1 _ := Moved.fresh hG hmv (fun q e => by omega)
    clear hG hrow hmv
    go_simp
    refine hK _ _ ?_
    clear f0 d0 hK
    generalize (w2'.setCell ⟨g, 0, none⟩ (.int .i64 (partF k))) = w3 at *
    have hb3 := hgr.heap HB1.out
    have HGC := Lib.hid (HG.out.trans hgr)
    replace c0 := row_cellT hb3 0 _ rfl
    have c1 := row_cellT hb3 1 _ rfl
    have c2 := row_cellT hb3 2 _ rfl
    have c3 := row_cellT hb3 3 _ rfl
    have c4' := row_cellT hb3 4 _ rfl
    have c5' := row_cellT hb3 5 _ rfl
    have HCALL : Hid (Calls Try.prog 58 #[.slice a5 l.length c5, .func (.func 57) #[] #[.pointer (some ⟨g, 0, none⟩)]] w3 fun r w' => r = .returned (.bool (l.any (otherB (partF k)))) ∧ Grew w3 w') := contains_any (partF k) g l _ vs w3 (HROWS.out.grew HGC.out) (HK.out.grew HGC.out) (row_cellT hrow2 0 _ rfl)
    clear hb3 hrow2 hgr hgB HB1 HG
    obtain ⟨h1, h2⟩ := H12.out
    clear H12
    rcases kinds k h1 h2 with rfl | rfl | rfl | rfl | rfl | rfl | rfl | rfl | rfl | rfl | rfl | rfl | rfl | rfl | rfl | rfl | rfl
    · clear h1 h2
      rw [show usesF 1 = 0 from rfl]
      have hm1 : bits BinOp.and IntKind.i64 0 1 = 0 := by kernel_rfl
      have hm2 : bits BinOp.and IntKind.i64 0 2 = 0 := by kernel_rfl
      have hm4 : bits BinOp.and IntKind.i64 0 4 = 0 := by kernel_rfl
      have hm8 : bits BinOp.and IntKind.i64 0 8 = 0 := by kernel_rfl
      go_wp2_with (go_at_call 58; refine HCALL.out.mono ?_; rintro r w4 ⟨rfl, hg⟩; have HGD := Lib.hid (HGC.out.trans hg); clear hg)
      all_goals
        go_ret
        first
        | (refine ⟨?_, HGD.out⟩
           clear HCALL HGC HK HROWS HGD
           refine ret_bool ?_
           (simp_all [suchB, usesF, List.length_pos_iff]; try omega))
        | (refine ⟨?_, HGC.out⟩
           clear HCALL HGC HK HROWS
           refine ret_bool ?_
           (simp_all [suchB, usesF, List.length_pos_iff]; try omega))
    · clear h1 h2
      rw [show usesF 2 = 1 from rfl]
      have hm1 : bits BinOp.and IntKind.i64 1 1 = 1 := by kernel_rfl
      have hm2 : bits BinOp.and IntKind.i64 1 2 = 0 := by kernel_rfl
      have hm4 : bits BinOp.and IntKind.i64 1 4 = 0 := by kernel_rfl
      have hm8 : bits BinOp.and IntKind.i64 1 8 = 0 := by kernel_rfl
      go_wp2_with (go_at_call 58; refine HCALL.out.mono ?_; rintro r w4 ⟨rfl, hg⟩; have HGD := Lib.hid (HGC.out.trans hg); clear hg)
      all_goals
        go_ret
        first
        | (refine ⟨?_, HGD.out⟩
           clear HCALL HGC HK HROWS HGD
           refine ret_bool ?_
           (simp_all [suchB, usesF, List.length_pos_iff]; try omega))
        | (refine ⟨?_, HGC.out⟩
           clear HCALL HGC HK HROWS
           refine ret_bool ?_
           (simp_all [suchB, usesF, List.length_pos_iff]; try omega))
    · clear h1 h2
      rw [show usesF 3 = 1 from rfl]
      have hm1 : bits BinOp.and IntKind.i64 1 1 = 1 := by kernel_rfl
      have hm2 : bits BinOp.and IntKind.i64 1 2 = 0 := by kernel_rfl
      have hm4 : bits BinOp.and IntKind.i64 1 4 = 0 := by kernel_rfl
      have hm8 : bits BinOp.and IntKind.i64 1 8 = 0 := by kernel_rfl
      go_wp2_with (go_at_call 58; refine HCALL.out.mono ?_; rintro r w4 ⟨rfl, hg⟩; have HGD := Lib.hid (HGC.out.trans hg); clear hg)
      all_goals
        go_ret
        first
        | (refine ⟨?_, HGD.out⟩
           clear HCALL HGC HK HROWS HGD
           refine ret_bool ?_
           (simp_all [suchB, usesF, List.length_pos_iff]; try omega))
        | (refine ⟨?_, HGC.out⟩
           clear HCALL HGC HK HROWS
           refine ret_bool ?_
           (simp_all [suchB, usesF, List.length_pos_iff]; try omega))
    · clear h1 h2
      rw [show usesF 4 = 2 from rfl]
      have hm1 : bits BinOp.and IntKind.i64 2 1 = 0 := by kernel_rfl
      have hm2 : bits BinOp.and IntKind.i64 2 2 = 2 := by kernel_rfl
      have hm4 : bits BinOp.and IntKind.i64 2 4 = 0 := by kernel_rfl
      have hm8 : bits BinOp.and IntKind.i64 2 8 = 0 := by kernel_rfl
      go_wp2_with (go_at_call 58; refine HCALL.out.mono ?_; rintro r w4 ⟨rfl, hg⟩; have HGD := Lib.hid (HGC.out.trans hg); clear hg)
      all_goals
        go_ret
        first
        | (refine ⟨?_, HGD.out⟩
           clear HCALL HGC HK HROWS HGD
           refine ret_bool ?_
           (simp_all [suchB, usesF, List.length_pos_iff]; try omega))
        | (refine ⟨?_, HGC.out⟩
           clear HCALL HGC HK HROWS
           refine ret_bool ?_
           (simp_all [suchB, usesF, List.length_pos_iff]; try omega))
    · clear h1 h2
      rw [show usesF 5 = 4 from rfl]
      have hm1 : bits BinOp.and IntKind.i64 4 1 = 0 := by kernel_rfl
      have hm2 : bits BinOp.and IntKind.i64 4 2 = 0 := by kernel_rfl
      have hm4 : bits BinOp.and IntKind.i64 4 4 = 4 := by kernel_rfl
      have hm8 : bits BinOp.and IntKind.i64 4 8 = 0 := by kernel_rfl
      go_wp2_with (go_at_call 58; refine HCALL.out.mono ?_; rintro r w4 ⟨rfl, hg⟩; have HGD := Lib.hid (HGC.out.trans hg); clear hg)
      all_goals
        go_ret
        first
        | (refine ⟨?_, HGD.out⟩
           clear HCALL HGC HK HROWS HGD
           refine ret_bool ?_
           (simp_all [suchB, usesF, List.length_pos_iff]; try omega))
        | (refine ⟨?_, HGC.out⟩
           clear HCALL HGC HK HROWS
           refine ret_bool ?_
           (simp_all [suchB, usesF, List.length_pos_iff]; try omega))
    · clear h1 h2
      rw [show usesF 6 = 4 from rfl]
      have hm1 : bits BinOp.and IntKind.i64 4 1 = 0 := by kernel_rfl
      have hm2 : bits BinOp.and IntKind.i64 4 2 = 0 := by kernel_rfl
      have hm4 : bits BinOp.and IntKind.i64 4 4 = 4 := by kernel_rfl
      have hm8 : bits BinOp.and IntKind.i64 4 8 = 0 := by kernel_rfl
      go_wp2_with (go_at_call 58; refine HCALL.out.mono ?_; rintro r w4 ⟨rfl, hg⟩; have HGD := Lib.hid (HGC.out.trans hg); clear hg)
      all_goals
        go_ret
        first
        | (refine ⟨?_, HGD.out⟩
           clear HCALL HGC HK HROWS HGD
           refine ret_bool ?_
           (simp_all [suchB, usesF, List.length_pos_iff]; try omega))
        | (refine ⟨?_, HGC.out⟩
           clear HCALL HGC HK HROWS
           refine ret_bool ?_
           (simp_all [suchB, usesF, List.length_pos_iff]; try omega))
    · clear h1 h2
      rw [show usesF 7 = 4 from rfl]
      have hm1 : bits BinOp.and IntKind.i64 4 1 = 0 := by kernel_rfl
      have hm2 : bits BinOp.and IntKind.i64 4 2 = 0 := by kernel_rfl
      have hm4 : bits BinOp.and IntKind.i64 4 4 = 4 := by kernel_rfl
      have hm8 : bits BinOp.and IntKind.i64 4 8 = 0 := by kernel_rfl
      go_wp2_with (go_at_call 58; refine HCALL.out.mono ?_; rintro r w4 ⟨rfl, hg⟩; have HGD := Lib.hid (HGC.out.trans hg); clear hg)
      all_goals
        go_ret
        first
        | (refine ⟨?_, HGD.out⟩
           clear HCALL HGC HK HROWS HGD
           refine ret_bool ?_
           (simp_all [suchB, usesF, List.length_pos_iff]; try omega))
        | (refine ⟨?_, HGC.out⟩
           clear HCALL HGC HK HROWS
           refine ret_bool ?_
           (simp_all [suchB, usesF, List.length_pos_iff]; try omega))
    · clear h1 h2
      rw [show usesF 8 = 1 from rfl]
      have hm1 : bits BinOp.and IntKind.i64 1 1 = 1 := by kernel_rfl
      have hm2 : bits BinOp.and IntKind.i64 1 2 = 0 := by kernel_rfl
      have hm4 : bits BinOp.and IntKind.i64 1 4 = 0 := by kernel_rfl
      have hm8 : bits BinOp.and IntKind.i64 1 8 = 0 := by kernel_rfl
      go_wp2_with (go_at_call 58; refine HCALL.out.mono ?_; rintro r w4 ⟨rfl, hg⟩; have HGD := Lib.hid (HGC.out.trans hg); clear hg)
      all_goals
        go_ret
        first
        | (refine ⟨?_, HGD.out⟩
           clear HCALL HGC HK HROWS HGD
           refine ret_bool ?_
           (simp_all [suchB, usesF, List.length_pos_iff]; try omega))
        | (refine ⟨?_, HGC.out⟩
           clear HCALL HGC HK HROWS
           refine ret_bool ?_
           (simp_all [suchB, usesF, List.length_pos_iff]; try omega))
    · clear h1 h2
      rw [show usesF 9 = 2 from rfl]
      have hm1 : bits BinOp.and IntKind.i64 2 1 = 0 := by kernel_rfl
      have hm2 : bits BinOp.and IntKind.i64 2 2 = 2 := by kernel_rfl
      have hm4 : bits BinOp.and IntKind.i64 2 4 = 0 := by kernel_rfl
      have hm8 : bits BinOp.and IntKind.i64 2 8 = 0 := by kernel_rfl
      go_wp2_with (go_at_call 58; refine HCALL.out.mono ?_; rintro r w4 ⟨rfl, hg⟩; have HGD := Lib.hid (HGC.out.trans hg); clear hg)
      all_goals
        go_ret
        first
        | (refine ⟨?_, HGD.out⟩
           clear HCALL HGC HK HROWS HGD
           refine ret_bool ?_
           (simp_all [suchB, usesF, List.length_pos_iff]; try omega))
        | (refine ⟨?_, HGC.out⟩
           clear HCALL HGC HK HROWS
           refine ret_bool ?_
           (simp_all [suchB, usesF, List.length_pos_iff]; try omega))
    · clear h1 h2
      rw [show usesF 10 = 0 from rfl]
      have hm1 : bits BinOp.and IntKind.i64 0 1 = 0 := by kernel_rfl
      have hm2 : bits BinOp.and IntKind.i64 0 2 = 0 := by kernel_rfl
      have hm4 : bits BinOp.and IntKind.i64 0 4 = 0 := by kernel_rfl
      have hm8 : bits BinOp.and IntKind.i64 0 8 = 0 := by kernel_rfl
      go_wp2_with (go_at_call 58; refine HCALL.out.mono ?_; rintro r w4 ⟨rfl, hg⟩; have HGD := Lib.hid (HGC.out.trans hg); clear hg)
      all_goals
        go_ret
        first
        | (refine ⟨?_, HGD.out⟩
           clear HCALL HGC HK HROWS HGD
           refine ret_bool ?_
           (simp_all [suchB, usesF, List.length_pos_iff]; try omega))
        | (refine ⟨?_, HGC.out⟩
           clear HCALL HGC HK HROWS
           refine ret_bool ?_
           (simp_all [suchB, usesF, List.length_pos_iff]; try omega))
    · clear h1 h2
      rw [show usesF 11 = 0 from rfl]
      have hm1 : bits BinOp.and IntKind.i64 0 1 = 0 := by kernel_rfl
      have hm2 : bits BinOp.and IntKind.i64 0 2 = 0 := by kernel_rfl
      have hm4 : bits BinOp.and IntKind.i64 0 4 = 0 := by kernel_rfl
      have hm8 : bits BinOp.and IntKind.i64 0 8 = 0 := by kernel_rfl
      go_wp2_with (go_at_call 58; refine HCALL.out.mono ?_; rintro r w4 ⟨rfl, hg⟩; have HGD := Lib.hid (HGC.out.trans hg); clear hg)
      all_goals
        go_ret
        first
        | (refine ⟨?_, HGD.out⟩
           clear HCALL HGC HK HROWS HGD
           refine ret_bool ?_
           (simp_all [suchB, usesF, List.length_pos_iff]; try omega))
        | (refine ⟨?_, HGC.out⟩
           clear HCALL HGC HK HROWS
           refine ret_bool ?_
           (simp_all [suchB, usesF, List.length_pos_iff]; try omega))
    · clear h1 h2
      rw [show usesF 12 = 0 from rfl]
      have hm1 : bits BinOp.and IntKind.i64 0 1 = 0 := by kernel_rfl
      have hm2 : bits BinOp.and IntKind.i64 0 2 = 0 := by kernel_rfl
      have hm4 : bits BinOp.and IntKind.i64 0 4 = 0 := by kernel_rfl
      have hm8 : bits BinOp.and IntKind.i64 0 8 = 0 := by kernel_rfl
      go_wp2_with (go_at_call 58; refine HCALL.out.mono ?_; rintro r w4 ⟨rfl, hg⟩; have HGD := Lib.hid (HGC.out.trans hg); clear hg)
      all_goals
        go_ret
        first
        | (refine ⟨?_, HGD.out⟩
           clear HCALL HGC HK HROWS HGD
           refine ret_bool ?_
           (simp_all [suchB, usesF, List.length_pos_iff]; try omega))
        | (refine ⟨?_, HGC.out⟩
           clear HCALL HGC HK HROWS
           refine ret_bool ?_
           (simp_all [suchB, usesF, List.length_pos_iff]; try omega))
    · clear h1 h2
      rw [show usesF 13 = 0 from rfl]
      have hm1 : bits BinOp.and IntKind.i64 0 1 = 0 := by kernel_rfl
      have hm2 : bits BinOp.and IntKind.i64 0 2 = 0 := by kernel_rfl
      have hm4 : bits BinOp.and IntKind.i64 0 4 = 0 := by kernel_rfl
      have hm8 : bits BinOp.and IntKind.i64 0 8 = 0 := by kernel_rfl
      go_wp2_with (go_at_call 58; refine HCALL.out.mono ?_; rintro r w4 ⟨rfl, hg⟩; have HGD := Lib.hid (HGC.out.trans hg); clear hg)
      all_goals
        go_ret
        first
        | (refine ⟨?_, HGD.out⟩
           clear HCALL HGC HK HROWS HGD
           refine ret_bool ?_
           (simp_all [suchB, usesF, List.length_pos_iff]; try omega))
        | (refine ⟨?_, HGC.out⟩
           clear HCALL HGC HK HROWS
           refine ret_bool ?_
           (simp_all [suchB, usesF, List.length_pos_iff]; try omega))
    · clear h1 h2
      rw [show usesF 14 = 0 from rfl]
      have hm1 : bits BinOp.and IntKind.i64 0 1 = 0 := by kernel_rfl
      have hm2 : bits BinOp.and IntKind.i64 0 2 = 0 := by kernel_rfl
      have hm4 : bits BinOp.and IntKind.i64 0 4 = 0 := by kernel_rfl
      have hm8 : bits BinOp.and IntKind.i64 0 8 = 0 := by kernel_rfl
      go_wp2_with (go_at_call 58; refine HCALL.out.mono ?_; rintro r w4 ⟨rfl, hg⟩; have HGD := Lib.hid (HGC.out.trans hg); clear hg)
      all_goals
        go_ret
        first
        | (refine ⟨?_, HGD.out⟩
           clear HCALL HGC HK HROWS HGD
           refine ret_bool ?_
           (simp_all [suchB, usesF, List.length_pos_iff]; try omega))
        | (refine ⟨?_, HGC.out⟩
           clear HCALL HGC HK HROWS
           refine ret_bool ?_
           (simp_all [suchB, usesF, List.length_pos_iff]; try omega))
    · clear h1 h2
      rw [show usesF 15 = 0 from rfl]
      have hm1 : bits BinOp.and IntKind.i64 0 1 = 0 := by kernel_rfl
      have hm2 : bits BinOp.and IntKind.i64 0 2 = 0 := by kernel_rfl
      have hm4 : bits BinOp.and IntKind.i64 0 4 = 0 := by kernel_rfl
      have hm8 : bits BinOp.and IntKind.i64 0 8 = 0 := by kernel_rfl
      go_wp2_with (go_at_call 58; refine HCALL.out.mono ?_; rintro r w4 ⟨rfl, hg⟩; have HGD := Lib.hid (HGC.out.trans hg); clear hg)
      all_goals
        go_ret
        first
        | (refine ⟨?_, HGD.out⟩
           clear HCALL HGC HK HROWS HGD
           refine ret_bool ?_
           (simp_all [suchB, usesF, List.length_pos_iff]; try omega))
        | (refine ⟨?_, HGC.out⟩
           clear HCALL HGC HK HROWS
           refine ret_bool ?_
           (simp_all [suchB, usesF, List.length_pos_iff]; try omega))
    · clear h1 h2
      rw [show usesF 16 = 0 from rfl]
      have hm1 : bits BinOp.and IntKind.i64 0 1 = 0 := by kernel_rfl
      have hm2 : bits BinOp.and IntKind.i64 0 2 = 0 := by kernel_rfl
      have hm4 : bits BinOp.and IntKind.i64 0 4 = 0 := by kernel_rfl
      have hm8 : bits BinOp.and IntKind.i64 0 8 = 0 := by kernel_rfl
      go_wp2_with (go_at_call 58; refine HCALL.out.mono ?_; rintro r w4 ⟨rfl, hg⟩; have HGD := Lib.hid (HGC.out.trans hg); clear hg)
      all_goals
        go_ret
        first
        | (refine ⟨?_, HGD.out⟩
           clear HCALL HGC HK HROWS HGD
           refine ret_bool ?_
           (simp_all [suchB, usesF, List.length_pos_iff]; try omega))
        | (refine ⟨?_, HGC.out⟩
           clear HCALL HGC HK HROWS
           refine ret_bool ?_
           (simp_all [suchB, usesF, List.length_pos_iff]; try omega))
    · clear h1 h2
      rw [show usesF 17 = 8 from rfl]
      have hm1 : bits BinOp.and IntKind.i64 8 1 = 0 := by kernel_rfl
      have hm2 : bits BinOp.and IntKind.i64 8 2 = 0 := by kernel_rfl
      have hm4 : bits BinOp.and IntKind.i64 8 4 = 0 := by kernel_rfl
      have hm8 : bits BinOp.and IntKind.i64 8 8 = 8 := by kernel_rfl
      go_wp2_with (go_at_call 58; refine HCALL.out.mono ?_; rintro r w4 ⟨rfl, hg⟩; have HGD := Lib.hid (HGC.out.trans hg); clear hg)
      all_goals
        go_ret
        first
        | (refine ⟨?_, HGD.out⟩
           clear HCALL HGC HK HROWS HGD
           refine ret_bool ?_
           (simp_all [suchB, usesF, List.length_pos_iff]; try omega))
        | (refine ⟨?_, HGC.out⟩
           clear HCALL HGC HK HROWS
           refine ret_bool ?_
           (simp_all [suchB, usesF, List.length_pos_iff]; try omega))
end Go.Proofs.Ytfbeepkogcmlmaa

/-
  Trees: the walk over a tree in preorder, as an iterator (walked, walk). Conditions: the tree lies in a world whose cells are kept; its size is bounded.
-/
namespace Go.Proofs.Ytfbeepkogcmlmaa
open Go Go.ChangeShapes Go.WideShapes Go.ChangeAt Go.RowKit Go.Joins Go.Deep Go.Shelf
set_option linter.unusedVariables false
set_option linter.unusedSimpArgs false
attribute [local go_sem] Oper.semAt_some

/-- The cells of w hold in w' what they held. -/
def CellsK (w w' : World) : Prop := ∀ (k : Nat) (o : Obj), w.heap[k]? = some o → o.isCells = true → w'.heap[k]? = some o
theorem CellsK.cell {w w' : World} (h : CellsK w w') {a : Addr} {v : Value} (hc : w.cell? a = some v) : w'.cell? a = some v := by
  have : ∃ o, w.heap[a.block]? = some o ∧ o.isCells = true := by
    unfold World.cell? at hc
    cases ho : w.heap[a.block]? with
    | none => simp [ho] at hc
    | some o => exact ⟨o, rfl, by cases o <;> simp_all [Obj.isCells]⟩
  obtain ⟨o, ho, hi⟩ := this
  rw [World.cell?_of_block (w := w) ((h _ o ho hi).trans ho.symm)]
  exact hc
theorem CellsK.of_grew {w w' : World} (h : Grew w w') : CellsK w w' := fun k o ho _ => (h.block k (Array.getElem?_eq_some_iff.1 ho).1).trans ho
section
variable {w w' : World} {v : Value} {vs : List Value}
theorem StrsAt.cells {ks : List ByteArray} (h : StrsAt w v ks) (hg : CellsK w w') : StrsAt w' v ks := by
  obtain ⟨a, c, h1, h2, h3, h4, h5⟩ := h
  refine ⟨a, c, h1, h2, h3, h4, fun i s hs => ?_⟩
  obtain ⟨hz, b, off, e, hc⟩ := h5 i s hs
  exact ⟨hz, b, off, e, hg.cell hc⟩
theorem Cells6.cells {b off : Nat} (h : Cells6 w b off v) (hg : CellsK w w') : Cells6 w' b off v := by
  obtain ⟨c0, c1, c2, c3, c4, c5, e, h0, h1, h2, h3, h4, h5⟩ := h
  exact ⟨c0, c1, c2, c3, c4, c5, e, hg.cell h0, hg.cell h1, hg.cell h2, hg.cell h3, hg.cell h4, hg.cell h5⟩
theorem RowsAt.cells (h : RowsAt w v vs) (hg : CellsK w w') : RowsAt w' v vs := by
  obtain ⟨a, c, h1, h2, h3, h4, h5⟩ := h
  refine ⟨a, c, h1, h2, h3, h4, fun i x hx => ?_⟩
  obtain ⟨b, off, e, hc⟩ := h5 i x hx
  exact ⟨b, off, e, hc.cells hg⟩
mutual
theorem NodeAt.cells (hg : CellsK w w') : ∀ {t : Tr} {v : Value}, NodeAt w t v → NodeAt w' t v
  | .mk k n u s keys l, v, ⟨hb, kv, lv, vs, e, h1, h2, h3⟩ => ⟨hb, kv, lv, vs, e, h1.cells hg, h2.cells hg, KidsAt.cells hg h3⟩
theorem KidsAt.cells (hg : CellsK w w') : ∀ {l : List Tr} {vs : List Value}, KidsAt w l vs → KidsAt w' l vs
  | [], _, h => h
  | t :: r, _, ⟨v, vr, e, h1, h2⟩ => ⟨v, vr, e, NodeAt.cells hg h1, KidsAt.cells hg h2⟩
end
end
/-- What a round keeps: the cells that lay below lo or from hi on. -/
structure KpC (lo hi : Nat) (w w' : World) : Prop where
  size : w.heap.size ≤ w'.heap.size
  same : ∀ (k : Nat) (o : Obj), w.heap[k]? = some o → o.isCells = true → k < lo ∨ hi ≤ k → w'.heap[k]? = some o
theorem KpC.trans {lo hi : Nat} {a b c : World} (h : KpC lo hi a b) (k : KpC lo hi b c) : KpC lo hi a c := ⟨Nat.le_trans h.size k.size, fun i o ho hc hr => k.same i o (h.same i o ho hc hr) hc hr⟩
theorem KpC.of_grew {lo hi : Nat} {a b : World} (h : Grew a b) : KpC lo hi a b := ⟨h.size, fun k o ho hc _ => CellsK.of_grew h k o ho hc⟩
theorem KpC.turn {lo hi : Nat} (W : World) (l : Nat) (o o' : Obj) (h : W.heap[l]? = some o) (ho : o.isCells = false) : KpC lo hi W (W.putObj l o') :=
  ⟨by simp, fun k q hk hc _ => by
    by_cases e : k = l
    · subst e; rw [h] at hk; cases hk; rw [ho] at hc; cases hc
    · exact (World.putObj_heap_other e).trans hk⟩
theorem CellsK.keep {lo hi : Nat} {w0 a b : World} (h : CellsK w0 a) (hlo : w0.heap.size ≤ lo) (k : KpC lo hi a b) : CellsK w0 b := fun i o ho hc => k.same i o (h i o ho hc) hc (.inl (Nat.lt_of_lt_of_le (Array.getElem?_eq_some_iff.1 ho).1 hlo))
theorem AbidesFrom.grew {β : Type} {B : Nat} {J : β → World → Prop} (h : AbidesFrom B J) {s : β} {A C : World} (hs : J s A) (hg : Grew A C) : J s C :=
  h s A C none hs ⟨hg.os, hg.tape, hg.output, hg.size, fun k hk _ => hg.block k hk⟩ (fun r e => by cases e)

mutual
/-- A tree's nodes in preorder, with their levels. -/
def preT (b : Nat) : Tr → List (Nat × Tr) | .mk k n u s keys l => (b, .mk k n u s keys l) :: preL (b + 1) l
def preL (b : Nat) : List Tr → List (Nat × Tr) | [] => [] | t :: r => preT b t ++ preL b r
end
theorem preL_snoc (b : Nat) (l : List Tr) (x : Tr) : preL b (l ++ [x]) = preL b l ++ preT b x := by
  induction l with
  | nil => simp [preL]
  | cons t r ih => simp [preL, ih]
theorem preL_append (b : Nat) (l r : List Tr) : preL b (l ++ r) = preL b l ++ preL b r := by
  induction l with
  | nil => simp [preL]
  | cons t q ih => simp [preL, ih]
mutual
theorem preT_length (b : Nat) : ∀ t : Tr, (preT b t).length = t.size
  | .mk k n u s keys l => by simp only [preT, Tr.size, List.length_cons, preL_length (b + 1) l]
theorem preL_length (b : Nat) : ∀ l : List Tr, (preL b l).length = sizeL l
  | [] => rfl
  | t :: r => by simp only [preL, sizeL, List.length_append, preT_length b t, preL_length b r]
end
theorem sizeL_append (l r : List Tr) : sizeL (l ++ r) = sizeL l + sizeL r := by
  induction l with
  | nil => simp [sizeL]
  | cons t q ih => simp only [List.cons_append, sizeL, ih]; omega
/-- What a round is handed: a level, a node's value, its tree, in a world. -/
def Visit (P : Tr → Prop) (w0 : World) : Type := { p : Nat × Value × Tr // NodeAt w0 p.2.2 p.2.1 ∧ p.1 ≤ 1099511627776 ∧ P p.2.2 }
def Visit.key {P : Tr → Prop} {w0 : World} (x : Visit P w0) : Nat × Tr := (x.1.1, x.1.2.2)
def Visit.encs {P : Tr → Prop} {w0 : World} (x : Visit P w0) : Array Value := #[.int .i64 x.1.1, x.1.2.1]
theorem YieldAt.anyM {m m' : Nat} {P : Program} {l : Nat} {args : Array Value} {W : World} {R : Ending → World → Prop} (h : YieldAt Fence.wide m P l args W R) : YieldAt Fence.wide m' P l args W R := by
  obtain ⟨fn, tmps, assign, body, hy, hR⟩ := h
  exact ⟨fn, tmps, assign, body, hy, hR.1, fun c cs _ => hR.2 c cs (room_wide _)⟩
set_option maxRecDepth 100000 in
set_option maxHeartbeats 2000000 in
theorem walkIn_any (P : Tr → Prop) (hP : ∀ t, P t → ∀ x ∈ t.kids, P x) (w0 : World) (lp lo hi N : Nat) (J Jx : List (Visit P w0) → World → Prop) (hlo : w0.heap.size ≤ lo)
    (hJ : ∀ s A B, J s A → Grew A B → J s B)
    (hY : ∀ m pre (x : Visit P w0) W, J pre W → pre.length < N → YieldAt Fence.wide m Try.prog lp x.encs W fun e W' =>
      (e = .returned (.bool true) ∧ J (pre ++ [x]) W' ∧ KpC lo hi W W') ∨ (e = .returned (.bool false) ∧ Jx (pre ++ [x]) W')) :
    ∀ (m : Nat) (t : Tr), t.size ≤ m → P t → ∀ (n : Nat) (v : Value) (b : Nat) (pre : List (Visit P w0)) (W : World), NodeAt w0 t v → CellsK w0 W → hi ≤ W.heap.size → J pre W → pre.length + t.size ≤ N → b + t.size ≤ 1099511627776 →
      CallsIn Fence.wide n Try.prog 54 #[v, .int .i64 b, .func (.yield lp) #[] #[]] W fun e W' =>
        (e = .returned (.bool true) ∧ (∃ ys : List (Visit P w0), ys.map Visit.key = preT b t ∧ J (pre ++ ys) W') ∧ KpC lo hi W W') ∨
        (e = .returned (.bool false) ∧ ∃ ys : List (Visit P w0), ys.map Visit.key <+: preT b t ∧ Jx (pre ++ ys) W') := by
  intro m
  induction m with
  | zero => intro t ht; have := t.size_pos; omega
  | succ m ih =>
  intro t ht hPt nn v b pre W hn hC hhi h0 hN hb
  obtain ⟨x, hx1, hx2⟩ : ∃ x : Visit P w0, x.1 = (b, v, t) ∧ x.encs = #[.int .i64 b, v] := ⟨⟨(b, v, t), hn, by have := t.size_pos; show b ≤ _; omega, hPt⟩, rfl, rfl⟩
  have HPK := Lib.hid (hP t hPt)
  clear hP
  have HX : Hid (x.key = (b, t)) := by show _ = _; simp [Visit.key, hx1]
  clear hx1
  obtain ⟨k, n, u, s, keys, l⟩ := t
  simp only [NodeAt] at hn
  obtain ⟨_, kv, lv, vs, rfl, hks, hrows, hkids⟩ := hn
  have hkl : vs.length = l.length := hkids.length
  obtain ⟨a4, c4, rfl, _, _, _, _⟩ := hks
  have HK := Lib.hid hkids
  have HROWS := Lib.hid hrows
  obtain ⟨a5, c5, rfl, hx3, hc5, hx4, hx5⟩ := hrows
  rw [hkl] at HROWS hx3 hx2 ⊢
  obtain ⟨fn, tmps, assign, body, hy, hR⟩ := hY (nn - 1) pre x (W.alloc (.cells #[.int .i64 k, .int .i64 n, .int .u64 u, .string s, .slice a4 keys.length c4, .slice a5 l.length c5] 26)) (hJ _ _ _ h0 ((Grew.refl W).alloc _)) (by simp only [Tr.size] at hN; omega)
  rw [hx2] at hy
  have hlen : l.length ≤ 9223372036854775807 := by unfold lenok at hc5; omega
  have HC := Lib.hid hC
  have HHI := Lib.hid hhi
  have HT := Lib.hid ht
  have HN := Lib.hid hN
  have HB := Lib.hid hb
  have H0 := Lib.hid h0
  have HIH := Lib.hid ih
  have HHJ := Lib.hid hJ
  have HY := Lib.hid hY
  have HLO := Lib.hid hlo
  clear hx3 hx4 hx5 hc5 hkids hC hhi ht hN hb h0 ih hJ hY hlo hkl
  refine callsIn_of_wp Try.func54 rfl trivial ?_ rfl
  simp only [Try.ntmps54, List.size_toArray, List.length_cons, List.length_nil, Nat.reduceAdd, Nat.reduceSub, Array.replicate_succ, Array.replicate_zero, List.push_toArray, List.append_toArray, List.nil_append, List.cons_append]
  have hbx0 := heap_alloc_new W (.cells #[.int .i64 k, .int .i64 n, .int .u64 u, .string s, .slice a4 keys.length c4, .slice a5 l.length c5] 26)
  have hs0 : (W.alloc (.cells #[.int .i64 k, .int .i64 n, .int .u64 u, .string s, .slice a4 keys.length c4, .slice a5 l.length c5] 26)).heap.size = W.heap.size + 1 := World.size_alloc _ _
  have HG0 := Lib.hid ((Grew.refl W).alloc (.cells #[.int .i64 k, .int .i64 n, .int .u64 u, .string s, .slice a4 keys.length c4, .slice a5 l.length c5] 26))
  have hR2 := hR.mono (R' := fun e W2 => (e = .returned (.bool true) ∧ Hid (J (pre ++ [x]) W2 ∧ KpC lo hi W W2) ∧ W2.cell? ⟨W.heap.size, 5, none⟩ = some (.slice a5 l.length c5)) ∨ (e = .returned (.bool false) ∧ Hid (Jx (pre ++ [x]) W2))) (fun e W2 h => h.elim (fun h => .inl ⟨h.1, ⟨h.2.1, (KpC.of_grew HG0.out).trans h.2.2⟩, row_cellT (h.2.2.same _ _ hbx0 rfl (.inr HHI.out)) 5 _ rfl⟩) (fun h => .inr h))
  clear hbx0 hs0 hR
  have hdd : ∀ q : Nat, (Fence.wide.depth.isSome = true → 1 ≤ q) := fun q h => by cases h
  gi_wp2_with (refine ⟨hdd _, ?_⟩; refine hR2.mono ?_; clear hR2; rintro e W2 (⟨rfl, HW2, d5⟩ | ⟨rfl, hx2⟩))
  · -- the node has been visited
    have HCW := Lib.hid (HC.out.keep HLO.out HW2.out.2)
    have HH2 : Hid (hi ≤ W2.heap.size) := Nat.le_trans HHI.out HW2.out.2.size
    clear d5 hy hx2
    gi_loopw [17] (fun i wr => ∃ j : Nat, j ≤ l.length ∧ i = .int .i64 j ∧ Hid (KpC lo hi W wr ∧ ∃ ys : List (Visit P w0), ys.map Visit.key = preL (b + 1) (l.take j) ∧ J (pre ++ x :: ys) wr)) (fun i _ => l.length - (intOf i).toNat)
    case atStart =>
      refine ⟨0, Nat.zero_le _, rfl, ?_⟩
      show _ ∧ _
      exact ⟨HW2.out.2, [], by simp [preL], HW2.out.1⟩
    case round =>
      obtain ⟨j, hj, rfl, HW⟩ := hrel
      by_cases hlt : j < l.length
      · obtain ⟨y, hy⟩ : ∃ y, l[j]? = some y := ⟨_, List.getElem?_eq_getElem hlt⟩
        obtain ⟨yv, hyv, hny⟩ := HK.out.get hy
        have hym : y ∈ l := List.mem_of_getElem? hy
        have htk : l.take (j + 1) = l.take j ++ [y] := by rw [List.take_add_one, hy]; rfl
        have HTK : Hid (preL (b + 1) (l.take (j + 1)) = preL (b + 1) (l.take j) ++ preT (b + 1) y) := by show _ = _; rw [htk, preL_snoc]
        have hszy : sizeL (l.take j) + y.size ≤ sizeL l := by
          have h1 : sizeL (l.take (j + 1)) + sizeL (l.drop (j + 1)) = sizeL l := by rw [← sizeL_append, List.take_append_drop]
          rw [htk, sizeL_append] at h1
          simp only [sizeL] at h1
          omega
        have hCwr : CellsK w0 wr := HC.out.keep HLO.out HW.out.1
        obtain ⟨bb, off, rfl, hc6⟩ : ∃ bb off, a5 = some ⟨bb, off, none⟩ ∧ Cells6 wr bb (off + j * 6) yv := by
          obtain ⟨a, c, e, _, _, _, h⟩ := HROWS.out
          injection e with e1 e2 e3
          subst e1
          obtain ⟨bb, off, e, h6⟩ := h j yv hyv
          exact ⟨bb, off, e, h6.cells hCwr⟩
        obtain ⟨xk, xn, xu, xs, xa4, xn4, xc4, xa5, xn5, xc5, rfl⟩ := hny.node6
        obtain ⟨e0, e1, e2, e3, e4, e5⟩ := hc6.get
        have hcall : Hid (∀ q : Nat, CallsIn Fence.wide q Try.prog 54 #[.agg #[.int .i64 xk, .int .i64 xn, .int .u64 xu, .string xs, .slice xa4 xn4 xc4, .slice xa5 xn5 xc5], .int .i64 ((b : Int) + 1), .func (.yield lp) #[] #[]] (wr.alloc (.cells #[.int .i64 xk, .int .i64 xn, .int .u64 xu, .string xs, .slice xa4 xn4 xc4, .slice xa5 xn5 xc5] 26)) fun e W' =>
            (e = .returned (.bool true) ∧ Hid (KpC lo hi W W' ∧ ∃ ys : List (Visit P w0), ys.map Visit.key = preL (b + 1) (l.take (j + 1)) ∧ J (pre ++ x :: ys) W')) ∨
            (e = .returned (.bool false) ∧ Hid (∃ ys : List (Visit P w0), ys.map Visit.key <+: preT b (.mk k n u s keys l) ∧ Jx (pre ++ ys) W'))) := by
          intro q
          obtain ⟨hkp, ys, hys, hjs⟩ := HW.out
          have hN' := HN.out
          have hB' := HB.out
          have hT' := HT.out
          simp only [Tr.size] at hN' hB' hT'
          have hyl : ys.length = sizeL (l.take j) := by rw [← preL_length (b + 1), ← hys, List.length_map]
          have hga := (Grew.refl wr).alloc (.cells #[.int .i64 xk, .int .i64 xn, .int .u64 xu, .string xs, .slice xa4 xn4 xc4, .slice xa5 xn5 xc5] 26)
          have hpos := y.size_pos
          have hsj := size_mem hym
          refine (HIH.out y (by omega) (HPK.out y hym) q _ (b + 1) (pre ++ x :: ys) _ hny (hCwr.keep HLO.out (KpC.of_grew hga : KpC lo hi _ _)) (Nat.le_trans HHI.out (Nat.le_trans hkp.size hga.size)) (HHJ.out _ _ _ hjs hga) (by simp only [List.length_append, List.length_cons]; omega) (by omega)).mono ?_
          rintro e W' (⟨rfl, ⟨zs, hzs, hjz⟩, hk'⟩ | ⟨rfl, zs, hzs, hjz⟩)
          · refine .inl ⟨rfl, (hkp.trans (KpC.of_grew hga)).trans hk', ys ++ zs, ?_, ?_⟩
            · rw [List.map_append, hys, hzs, HTK.out]
            · simpa [List.append_assoc] using hjz
          · refine .inr ⟨rfl, x :: (ys ++ zs), ?_, ?_⟩
            · rw [List.map_cons, HX.out, List.map_append, hys]
              simp only [preT]
              refine List.prefix_cons_inj _ |>.2 ?_
              have h1 : preL (b + 1) l = preL (b + 1) (l.take j) ++ (preT (b + 1) y ++ preL (b + 1) (l.drop (j + 1))) := by
                rw [← List.append_assoc, ← HTK.out, ← preL_append, List.take_append_drop]
              rw [h1]
              exact (List.prefix_append_right_inj _).2 (hzs.trans (List.prefix_append _ _))
            · simpa [List.append_assoc] using hjz
        have hlti : (j : Int) < l.length := by omega
        have hwb : Hid (wrap64 ((b : Int) + 1) = (b : Int) + 1) := by
          have hB' := HB.out
          simp only [Tr.size] at hB'
          exact IntWalk.wrap64_in _ (by omega)
        clear hc6 hy hyv hny hym htk hszy hCwr
        gi_wp2_with (refine ⟨trivial, hdd _, ?_⟩; rw [hwb.out]; refine (hcall.out _).mono ?_; clear hcall; rintro e W3 (⟨rfl, HW3⟩ | ⟨rfl, HX3⟩))
        · go_roundw
          case rel => exact ⟨j + 1, by omega, by go_num, HW3⟩
          case measure => simp [intOf]; omega
        · gi_wp2
          go_ret
          exact .inr ⟨rfl, HX3.out⟩
      · have ej : j = l.length := by omega
        subst ej
        gi_wp2
        go_ret
        obtain ⟨hkp, ys, hys, hjs⟩ := HW.out
        rw [List.take_length] at hys
        exact .inl ⟨rfl, ⟨x :: ys, by rw [List.map_cons, HX.out, hys]; simp only [preT], hjs⟩, hkp⟩
  · gi_wp2
    go_ret
    exact .inr ⟨rfl, [x], by simp [HX.out, preT], hx2⟩
set_option maxRecDepth 100000 in
theorem walked_any (v : Value) (w : World) (hv : Node6 v) : Calls Try.prog 35 #[v] w fun r w' => r = .returned (.func (.func 53) #[] #[.pointer (some ⟨w.heap.size, 0, none⟩)]) ∧ w' = w.alloc (.cells v.cells 26) := by
  obtain ⟨xk, xn, xu, xs, xa4, xn4, xc4, xa5, xn5, xc5, rfl⟩ := hv
  go_enter Try.func35, Try.ntmps35
  go_wp2_with fail
  go_ret
  exact ⟨rfl, rfl⟩
set_option maxRecDepth 100000 in
set_option maxHeartbeats 1000000 in
/-- What is handed back is an iterator over the tree's nodes in preorder. -/
theorem walked_stops (P : Tr → Prop) (hP : ∀ t, P t → ∀ x ∈ t.kids, P x) (n : Nat) (w0 w1 : World) (Bt lo hi : Nat) (t : Tr) (v : Value) (hn : NodeAt w0 t v) (hC : CellsK w0 w1) (hlo : w0.heap.size ≤ lo) (hhi : hi ≤ w1.heap.size) (hBt : w1.heap[Bt]? = some (.cells v.cells 26 (0, 0))) (hsz : t.size ≤ 1099511627776) (hPt : P t) :
    SeqStopsK Fence.wide n Try.prog 53 #[.pointer (some ⟨Bt, 0, none⟩)] (Visit.encs (P := P) (w0 := w0)) (KpC lo hi) (fun ys => ys.map Visit.key = preT 0 t) (fun pre => pre.map Visit.key <+: preT 0 t) t.size w1 := by
  intro lp J Jx W hW hJ hJx hY h0
  have hG : Grew w1 W := hW
  have hbt := hG.heap hBt
  have hwk := Lib.hid (walkIn_any P hP w0 lp lo hi t.size J Jx hlo (fun s A B h hg => AbidesFrom.grew hJ h hg) (fun m pre x W hj hl => YieldAt.anyM (hY pre x W hj hl)) t.size t (Nat.le_refl _) hPt (n - 1) v 0 [] W hn (hC.keep hlo (KpC.of_grew hG : KpC lo hi _ _)) (Nat.le_trans hhi hG.size) h0 (by simp) (by omega))
  obtain ⟨xk, xn, xu, xs, xa4, xn4, xc4, xa5, xn5, xc5, rfl⟩ := hn.node6
  simp only [Value.cells] at hbt
  have d0 := row_cellT hbt 0 _ rfl
  have d1 := row_cellT hbt 1 _ rfl
  have d2 := row_cellT hbt 2 _ rfl
  have d3 := row_cellT hbt 3 _ rfl
  have d4 := row_cellT hbt 4 _ rfl
  have d5 := row_cellT hbt 5 _ rfl
  have hdd : ∀ q : Nat, (Fence.wide.depth.isSome = true → 1 ≤ q) := fun q h => by cases h
  clear hn hC hlo hhi hBt hW hJ hJx hY h0 hG hbt hsz
  refine callsIn_of_wp Try.func53 rfl trivial ?_ rfl
  simp only [Try.ntmps53, List.size_toArray, List.length_cons, List.length_nil, Nat.reduceAdd, Nat.reduceSub, Array.replicate_succ, Array.replicate_zero, List.push_toArray, List.append_toArray, List.nil_append, List.cons_append]
  gi_wp2_with (refine ⟨trivial, hdd _, ?_⟩; refine hwk.out.mono ?_; clear hwk; rintro e W1 (⟨rfl, ⟨ys, hys, hj⟩, hk⟩ | ⟨rfl, ys, hys, hj⟩))
  · go_end0
    exact ⟨⟨_, rfl⟩, .inl ⟨ys, hys, by simpa using hj⟩⟩
  · go_end0
    exact ⟨⟨_, rfl⟩, .inr ⟨ys, hys, by simpa using hj⟩⟩
end Go.Proofs.Ytfbeepkogcmlmaa

/-
  Trees: Check. Conditions: the tree lies in memory; its size is bounded.
-/
namespace Go.Proofs.Ytfbeepkogcmlmaa
open Go Go.ChangeShapes Go.WideShapes Go.ChangeAt Go.RowKit Go.Joins Go.Deep Go.Shelf
set_option linter.unusedVariables false
set_option linter.unusedSimpArgs false
attribute [local go_sem] Oper.semAt_some

/-- The first error among the nodes that come, c having come. -/
def checkL (c : Nat) : List (Nat × Tr) → Int
  | [] => 0
  | (b, x) :: r => if 4096 < c + 1 then 5 else if 64 ≤ b then 61 else if suchB x = false then 60 else if keyedE x ≠ 0 then keyedE x else checkL (c + 1) r
def checkE (t : Tr) : Int := checkL 0 (preT 0 t)
theorem kept_cells {W W' : World} {row : Option Nat} (hg : W.grownBy W' row) (hr : ∀ r, row = some r → ∃ o : Obj, W.heap[r]? = some o ∧ o.isCells = false) {k : Nat} {o : Obj} (hk : W.heap[k]? = some o) (ho : o.isCells = true) : W'.heap[k]? = some o := by
  refine (hg.block k (Array.getElem?_eq_some_iff.1 hk).1 (fun e => ?_)).trans hk
  obtain ⟨q, hq, hc⟩ := hr k e.symm
  rw [hk] at hq; cases hq; rw [ho] at hc; cases hc
theorem grew_turn {w W W' : World} {row : Option Nat} {B : Nat} (h : Grew w W) (hg : W.grownBy W' row) (hr : ∀ r, row = some r → B ≤ r) (hB : w.heap.size ≤ B) : Grew w W' :=
  Below.grown h hg h.size (fun k e => Nat.le_trans hB (hr k e))
/-- What holds between two rounds of Check: no error yet, so many nodes. -/
def ChkI (w : World) (ps : List (Nat × Tr)) (W : World) : Prop :=
  W.heap[w.heap.size + 1]? = some (.cells #[.int .i64 0] 28 (0, 0)) ∧ W.heap[w.heap.size + 2]? = some (.cells #[.int .i64 ps.length] 3 (0, 0)) ∧ Grew w W ∧ ∀ rest, checkL 0 (ps ++ rest) = checkL ps.length rest
/-- What holds where a round has left. -/
def ChkX (w : World) (ps : List (Nat × Tr)) (W : World) : Prop :=
  ∃ e : Int, W.heap[w.heap.size + 1]? = some (.cells #[.int .i64 e] 28 (0, 0)) ∧ Grew w W ∧ ∀ rest, checkL 0 (ps ++ rest) = e
theorem ChkI.own (w : World) {B : Nat} (hB : w.heap.size ≤ B) : OwnFrom B (fun (s : List (Visit (fun _ => True) w)) W => ChkI w (s.map Visit.key) W) := by
  rintro s A C row ⟨h1, h2, h3, h4⟩ hg hr
  exact ⟨kept_cells hg (fun r e => (hr r e).2) h1 rfl, kept_cells hg (fun r e => (hr r e).2) h2 rfl, grew_turn h3 hg (fun r e => (hr r e).1) hB, h4⟩
theorem ChkX.own (w : World) {B : Nat} (hB : w.heap.size ≤ B) : OwnFrom B (fun (s : List (Visit (fun _ => True) w)) W => ChkX w (s.map Visit.key) W) := by
  rintro s A C row ⟨e, h1, h3, h4⟩ hg hr
  exact ⟨e, kept_cells hg (fun r e => (hr r e).2) h1 rfl, grew_turn h3 hg (fun r e => (hr r e).1) hB, h4⟩
theorem keeps_grew {B : Nat} {a b : World} (h : Grew a b) : KeepsFrom B a b := ⟨h.size, fun k o _ hk _ => (h.block k (Array.getElem?_eq_some_iff.1 hk).1).trans hk⟩
theorem KpC.setCell {lo hi : Nat} (W : World) (k : Nat) (h1 : lo ≤ k) (h2 : k < hi) (v : Value) : KpC lo hi W (W.setCell ⟨k, 0, none⟩ v) :=
  ⟨by simp [World.setCell], fun i o ho _ hr => (Below.heap_setCell W _ v i (by show i ≠ k; omega)).trans ho⟩
theorem chk_grew {w W : World} {k : Nat} (h : Grew w W) (hk : w.heap.size ≤ k) (v : Value) : Grew w (W.setCell ⟨k, 0, none⟩ v) := Below.setCell h hk v
theorem chk_ret {w W : World} {e e0 : Int} {ps : List (Nat × Tr)} (h1 : W.heap[w.heap.size + 1]? = some (.cells #[.int .i64 e0] 28 (0, 0))) (hg : Grew w W) (h : ∀ rest, checkL 0 (ps ++ rest) = e) : ChkX w ps (W.setCell ⟨w.heap.size + 1, 0, none⟩ (.int .i64 e)) :=
  ⟨e, by have := heap_setCell_same W (w.heap.size + 1) 0 _ _ (.int .i64 e) h1; simpa using this, chk_grew hg (by omega) _, h⟩
set_option maxRecDepth 100000 in
set_option maxHeartbeats 4000000 in
theorem check_any (t : Tr) (v : Value) (w : World) (hn : NodeAt w t v) (hsz : t.size ≤ 1099511627776) :
    Calls Try.prog 17 #[v] w fun r w' => r = .returned (.int .i64 (checkE t)) ∧ Grew w w' := by
  have h6 := hn.node6
  refine (callsIn_wide (n := 3)).1 ?_
  obtain ⟨xk, xn, xu, xs, xa4, xn4, xc4, xa5, xn5, xc5, rfl⟩ := h6
  refine callsIn_of_wp_marks Try.func17 rfl trivial ?_ rfl
  simp only [Try.ntmps17, List.size_toArray, List.length_cons, List.length_nil, Nat.reduceAdd, Nat.reduceSub, Array.replicate_succ, Array.replicate_zero, List.push_toArray, List.append_toArray, List.nil_append, List.cons_append]
  have hdd : ∀ q : Nat, (Fence.wide.depth.isSome = true → 1 ≤ q) := fun q h => by cases h
  gi_wp2_with (refine ⟨trivial, ?_⟩; refine (callsIn_wide.2 (walked_any _ _ ⟨_, _, _, _, _, _, _, _, _, _, rfl⟩)).mono ?_; rintro r w2 ⟨rfl, hw2⟩; have HW2 := Lib.hid hw2; clear hw2)
  obtain ⟨V, hV⟩ : ∃ V : Value, V = .agg #[.int .i64 xk, .int .i64 xn, .int .u64 xu, .string xs, .slice xa4 xn4 xc4, .slice xa5 xn5 xc5] := ⟨_, rfl⟩
  rw [← hV] at hn
  have HV := Lib.hid hV
  have hF : Hid (Grew w w2 ∧ w2.heap.size = w.heap.size + 4 ∧ w2.heap[w.heap.size + 1]? = some (.cells #[.int .i64 0] 28 (0, 0)) ∧ w2.heap[w.heap.size + 2]? = some (.cells #[.int .i64 0] 3 (0, 0)) ∧ w2.heap[w.heap.size + 3]? = some (.cells V.cells 26 (0, 0))) := by
    show _ ∧ _
    rw [HW2.out, hV]
    obtain ⟨A, hA⟩ : ∃ A, w.alloc (.cells #[.int .i64 xk, .int .i64 xn, .int .u64 xu, .string xs, .slice xa4 xn4 xc4, .slice xa5 xn5 xc5] 26) = A := ⟨_, rfl⟩
    have sA : A.heap.size = w.heap.size + 1 := by rw [← hA, World.size_alloc]
    have gA : Grew w A := by rw [← hA]; exact (Grew.refl _).alloc _
    rw [hA]
    obtain ⟨B, hB⟩ : ∃ B, A.alloc (.cells #[.int .i64 0] 28) = B := ⟨_, rfl⟩
    have sB : B.heap.size = w.heap.size + 2 := by rw [← hB, World.size_alloc, sA]
    have gB : Grew A B := by rw [← hB]; exact (Grew.refl _).alloc _
    have bB := heap_alloc_new A (.cells #[.int .i64 0] 28)
    rw [hB, sA] at bB
    rw [hB]
    obtain ⟨C, hC⟩ : ∃ C, B.alloc (.cells #[.int .i64 0] 3) = C := ⟨_, rfl⟩
    have sC : C.heap.size = w.heap.size + 3 := by rw [← hC, World.size_alloc, sB]
    have gC : Grew B C := by rw [← hC]; exact (Grew.refl _).alloc _
    have bC := heap_alloc_new B (.cells #[.int .i64 0] 3)
    rw [hC, sB] at bC
    rw [hC]
    have gD := (Grew.refl C).alloc (.cells (Value.agg #[.int .i64 xk, .int .i64 xn, .int .u64 xu, .string xs, .slice xa4 xn4 xc4, .slice xa5 xn5 xc5]).cells 26)
    have bD := heap_alloc_new C (.cells (Value.agg #[.int .i64 xk, .int .i64 xn, .int .u64 xu, .string xs, .slice xa4 xn4 xc4, .slice xa5 xn5 xc5]).cells 26)
    rw [sC] at bD
    exact ⟨gA.trans (gB.trans (gC.trans gD)), by rw [World.size_alloc, sC], gD.heap (gC.heap bB), gD.heap bC, bD⟩
  refine wpIn_rangeFunc_ownH rfl (by omega) (gf := 53) (lb := #[.pointer (some ⟨w.heap.size + 3, 0, none⟩)]) rfl trivial (enters_of Try.func53 (by kernel_rfl) rfl)
    (walked_stops (fun _ => True) (fun _ _ _ _ => trivial) _ w w2 (w.heap.size + 3) w.heap.size (w.heap.size + 3) t V hn (CellsK.of_grew hF.out.1) (Nat.le_refl _) (by have := hF.out.2.1; omega) hF.out.2.2.2.2 hsz trivial)
    KpC.trans (fun W l o o' _ h ho _ => KpC.turn W l o o' h ho) (Below.refl _ _) (fun _ => rfl)
    (fun pre W => ChkI w (pre.map Visit.key) W) (fun c pre W => c = .ret ∧ ChkX w (pre.map Visit.key) W)
    (ChkI.own w hF.out.1.size) (fun c => OwnFrom.and (ownFrom_pure _ _) (ChkX.own w hF.out.1.size))
    ⟨hF.out.2.2.1, hF.out.2.2.2.1, hF.out.1, fun rest => rfl⟩
    (fun x a' W => ∃ Bx, w.heap.size + 3 ≤ Bx ∧ W.heap[Bx]? = some (.cells x.1.2.1.cells 26 (0, 0)) ∧ a' = { tmps := #[.agg #[.int .i64 xk, .int .i64 xn, .int .u64 xu, .string xs, .slice xa4 xn4 xc4, .slice xa5 xn5 xc5], .pointer (some ⟨w.heap.size, 0, none⟩), .pointer (some ⟨w.heap.size + 1, 0, none⟩), .pointer (some ⟨w.heap.size + 2, 0, none⟩), .int .i64 x.1.1, .pointer (some ⟨Bx, 0, none⟩), undef, .agg #[.int .i64 xk, .int .i64 xn, .int .u64 xu, .string xs, .slice xa4 xn4 xc4, .slice xa5 xn5 xc5], .func (.func 53) #[] #[.pointer (some ⟨w.heap.size + 3, 0, none⟩)], .int .i64 x.1.1, x.1.2.1, undef, undef, undef, undef, undef, undef, undef, undef, undef, undef, undef, undef, undef, undef, undef, undef, undef], defers := [] })
    ?hAx ?assign ?body ?done ?stop
  case hAx =>
    rintro x a' s A C row ⟨Bx, h1, h2, h3⟩ hg hr
    exact ⟨Bx, h1, kept_cells hg (fun r e => (hr r e).2) h2 rfl, h3⟩
  case assign =>
    rintro l pre ⟨⟨b, v, x⟩, hx, hb⟩ W K hi hK
    obtain ⟨yk, yn, yu, ys, ya4, yn4, yc4, ya5, yn5, yc5, rfl⟩ := hx.node6
    have HI := Lib.hid hi
    have HK := Lib.hid hK
    have HFF := Lib.hid hF.out
    have hz : ∀ W : World, W.heap.size = W.heap.size := fun _ => rfl
    clear hi hK hn hV HW2 HFF
    simp only [Visit.encs]
    gi_wp2
    refine HK.out _ _ (KeepsOthers.from (KeepsOthers.alloc _ _) _) (KpC.of_grew ((Grew.refl W).alloc _)) ?_ ⟨W.heap.size, ?_, heap_alloc_new _ _, rfl⟩
    · exact (ChkI.own w hF.out.1.size).alloc _ HI.out
    · have h1 := (Array.getElem?_eq_some_iff.1 HI.out.2.1).1
      omega
  case body =>
    rintro l pre X a' W hl _ hi ⟨Bx, hBx, hbx, rfl⟩ hlt
    obtain ⟨b, v, x, hX, hx, hb⟩ : ∃ b v x, X.1 = (b, v, x) ∧ NodeAt w x v ∧ b ≤ 1099511627776 := ⟨X.1.1, X.1.2.1, X.1.2.2, rfl, X.2.1, X.2.2.1⟩
    have HXK : Hid (X.key = (b, x)) := by show _ = _; simp [Visit.key, hX]
    rw [hX] at hbx ⊢
    clear hX
    have hxn := hx
    obtain ⟨yk, yn, yu, ys, ya4, yn4, yc4, ya5, yn5, yc5, rfl⟩ := hx.node6
    obtain ⟨i1, i2, i3, i4⟩ := hi
    rw [List.length_map] at i2 i4
    simp only [Value.cells] at hbx
    have hwr : wrap64 ((pre.length : Int) + 1) = (pre.length : Int) + 1 := IntWalk.wrap64_in _ (by omega)
    have q2 := row_cellT i2 0 _ rfl
    have f2 := row_frozen i2 0
    obtain ⟨W', hW'⟩ : ∃ W', W.setCell ⟨w.heap.size + 2, 0, none⟩ (.int .i64 ((pre.length : Int) + 1)) = W' := ⟨_, rfl⟩
    have hm : Moved (fun g => g = w.heap.size + 2) W W' := by rw [← hW']; exact Moved.setCell (S := fun g => g = w.heap.size + 2) (p := ⟨w.heap.size + 2, 0, none⟩) (Moved.refl _ W) (fun _ => rfl) _
    have j1 := hm.heap i1 (by omega)
    have j2 : W'.heap[w.heap.size + 2]? = some (.cells #[.int .i64 ((pre.length : Int) + 1)] 3 (0, 0)) := by rw [← hW']; have := heap_setCell_same W (w.heap.size + 2) 0 _ _ (.int .i64 ((pre.length : Int) + 1)) i2; simpa using this
    have jb := hm.heap hbx (by omega)
    have j3 : Grew w W' := Moved.fresh i3 hm (fun g h => by omega)
    have HKF : Hid (KeepsFrom w2.heap.size W W' ∧ KpC w.heap.size (w.heap.size + 3) W W') := by
      show _ ∧ _
      rw [← hW']
      exact ⟨KeepsOthers.from (KeepsOthers.setCell _ _ _) _, KpC.setCell _ _ (by omega) (by omega) _⟩
    have HSUCH := Lib.hid (such_any x _ _ (hxn.grew j3))
    have HKEY : Hid (∀ w3, Grew W' w3 → Calls Try.prog 37 #[.agg #[.int .i64 yk, .int .i64 yn, .int .u64 yu, .string ys, .slice ya4 yn4 yc4, .slice ya5 yn5 yc5]] w3 fun r w' => r = .returned (.int .i64 (keyedE x)) ∧ Grew w3 w') := fun w3 hg => keyed_any x _ _ (hxn.grew (j3.trans hg))
    have HE : Hid (∀ rest, checkL 0 ((pre.map Visit.key ++ [(b, x)]) ++ rest) = if 4096 < pre.length + 1 then 5 else if 64 ≤ b then 61 else if suchB x = false then 60 else if keyedE x ≠ 0 then keyedE x else checkL (pre.length + 1) rest) := by
      intro rest
      rw [List.append_assoc, i4]
      rfl
    have HJ := Lib.hid (And.intro j1 (And.intro j2 (And.intro jb j3)))
    have c2 := row_cellT j2 0 _ rfl
    have c1 := row_cellT j1 0 _ rfl
    have f1 := row_frozen j1 0
    have e0 := row_cellT jb 0 _ rfl
    have e1 := row_cellT jb 1 _ rfl
    have e2 := row_cellT jb 2 _ rfl
    have e3 := row_cellT jb 3 _ rfl
    have e4 := row_cellT jb 4 _ rfl
    have e5 := row_cellT jb 5 _ rfl
    have hbi : (b : Int) ≤ 1099511627776 := by omega
    clear i1 i2 i3 i4 hbx hm j1 j2 jb j3 hx hl hlt hn hV HW2 hxn hb
    have HRET : Hid (∀ (W3 : World) (e : Int), Grew W' W3 → (∀ rest, checkL 0 ((pre.map Visit.key ++ [(b, x)]) ++ rest) = e) → KeepsFrom w2.heap.size W (W3.setCell ⟨w.heap.size + 1, 0, none⟩ (.int .i64 e)) ∧ ChkX w (List.map Visit.key (pre ++ [X])) (W3.setCell ⟨w.heap.size + 1, 0, none⟩ (.int .i64 e))) := by
      intro W3 e hg he
      refine ⟨(HKF.out.1.trans (keeps_grew hg)).trans (KeepsOthers.from (KeepsOthers.setCell _ _ _) _), ?_⟩
      rw [show List.map Visit.key (pre ++ [X]) = pre.map Visit.key ++ [(b, x)] by rw [List.map_append, List.map_singleton, HXK.out]]
      exact chk_ret (hg.heap HJ.out.1) (HJ.out.2.2.2.trans hg) he
    by_cases h1 : 4096 < pre.length + 1
    · have h1i : (4096 : Int) < (pre.length : Int) + 1 := by omega
      have HF1 := Lib.hid h1
      clear h1
      gi_wp2
      have q := HRET.out W' 5 (Grew.refl _) (fun rest => by rw [HE.out rest, if_pos HF1.out])
      exact ⟨q.1, rfl, q.2⟩
    have h1i : ¬ (4096 : Int) < (pre.length : Int) + 1 := by omega
    have HF1 := Lib.hid h1
    clear h1
    by_cases h2 : 64 ≤ b
    · have h2i : (64 : Int) ≤ (b : Int) := by omega
      have HF2 := Lib.hid h2
      clear h2
      gi_wp2
      have q := HRET.out W' 61 (Grew.refl _) (fun rest => by rw [HE.out rest, if_neg HF1.out, if_pos HF2.out])
      exact ⟨q.1, rfl, q.2⟩
    have h2i : ¬ (64 : Int) ≤ (b : Int) := by omega
    have HF2 := Lib.hid h2
    clear h2
    cases hs : suchB x
    · rw [hs] at HSUCH
      have HS := Lib.hid hs
      clear hs
      gi_wp2_with (refine ⟨trivial, ?_⟩; refine (CallsIn.inRound l (callsIn_wide.2 HSUCH.out)).mono ?_; rintro r w3 ⟨rfl, hg3⟩; have d1 := row_cellT (hg3.heap HJ.out.1) 0 _ rfl; have g1 := row_frozen (hg3.heap HJ.out.1) 0; have HG3 := Lib.hid hg3; clear hg3)
      have q := HRET.out _ 60 HG3.out (fun rest => by rw [HE.out rest, if_neg HF1.out, if_neg HF2.out, if_pos HS.out])
      exact ⟨q.1, rfl, q.2⟩
    · rw [hs] at HSUCH
      have HS : Hid (¬ suchB x = false) := by show ¬ _; rw [hs]; simp
      clear hs
      obtain ⟨E, hE⟩ : ∃ E, keyedE x = E := ⟨_, rfl⟩
      rw [hE] at HKEY
      by_cases h4 : E = 0
      · subst h4
        gi_wp2_with (first
          | (refine ⟨trivial, ?_⟩; gi_at_call 36; refine (CallsIn.inRound l (callsIn_wide.2 HSUCH.out)).mono ?_; clear HSUCH; rintro r w3 ⟨rfl, hg3⟩; have d0 := row_cellT (hg3.heap HJ.out.2.2.1) 0 _ rfl; have d1 := row_cellT (hg3.heap HJ.out.2.2.1) 1 _ rfl; have d2 := row_cellT (hg3.heap HJ.out.2.2.1) 2 _ rfl; have d3 := row_cellT (hg3.heap HJ.out.2.2.1) 3 _ rfl; have d4 := row_cellT (hg3.heap HJ.out.2.2.1) 4 _ rfl; have d5 := row_cellT (hg3.heap HJ.out.2.2.1) 5 _ rfl; have HG3 := Lib.hid hg3; clear hg3)
          | (refine ⟨trivial, ?_⟩; gi_at_call 37; refine (CallsIn.inRound l (callsIn_wide.2 (HKEY.out _ HG3.out))).mono ?_; clear HKEY; rintro r w4 ⟨rfl, hg4⟩; have HG4 := Lib.hid (HG3.out.trans hg4); have g1 := row_frozen (HG4.out.heap HJ.out.1) 0; have r1 := row_cellT (HG4.out.heap HJ.out.1) 0 _ rfl; clear hg4))
        refine ⟨HKF.out.1.trans (keeps_grew HG4.out), HKF.out.2.trans (KpC.of_grew HG4.out), ?_⟩
        show ChkI w (List.map Visit.key (pre ++ [X])) _
        rw [show List.map Visit.key (pre ++ [X]) = pre.map Visit.key ++ [(b, x)] by rw [List.map_append, List.map_singleton, HXK.out]]
        refine ⟨HG4.out.heap HJ.out.1, ?_, HJ.out.2.2.2.trans HG4.out, fun rest => ?_⟩
        · rw [List.length_append, List.length_map]
          exact HG4.out.heap HJ.out.2.1
        · rw [HE.out rest, if_neg HF1.out, if_neg HF2.out, if_neg HS.out, if_neg (by rw [hE]; simp), List.length_append, List.length_map]
          rfl
      · have h4b : (E == 0) = false := by simpa using h4
        have HE4 := Lib.hid h4
        have HEE := Lib.hid hE
        clear h4 hE
        gi_wp2_with (first
          | (refine ⟨trivial, ?_⟩; gi_at_call 36; refine (CallsIn.inRound l (callsIn_wide.2 HSUCH.out)).mono ?_; clear HSUCH; rintro r w3 ⟨rfl, hg3⟩; have d0 := row_cellT (hg3.heap HJ.out.2.2.1) 0 _ rfl; have d1 := row_cellT (hg3.heap HJ.out.2.2.1) 1 _ rfl; have d2 := row_cellT (hg3.heap HJ.out.2.2.1) 2 _ rfl; have d3 := row_cellT (hg3.heap HJ.out.2.2.1) 3 _ rfl; have d4 := row_cellT (hg3.heap HJ.out.2.2.1) 4 _ rfl; have d5 := row_cellT (hg3.heap HJ.out.2.2.1) 5 _ rfl; have HG3 := Lib.hid hg3; clear hg3)
          | (refine ⟨trivial, ?_⟩; gi_at_call 37; refine (CallsIn.inRound l (callsIn_wide.2 (HKEY.out _ HG3.out))).mono ?_; clear HKEY; rintro r w4 ⟨rfl, hg4⟩; have HG4 := Lib.hid (HG3.out.trans hg4); have g1 := row_frozen (HG4.out.heap HJ.out.1) 0; have r1 := row_cellT (HG4.out.heap HJ.out.1) 0 _ rfl; clear hg4))
        have q := HRET.out _ E HG4.out (fun rest => by rw [HE.out rest, if_neg HF1.out, if_neg HF2.out, if_neg HS.out, HEE.out, if_pos HE4.out])
        exact ⟨q.1, rfl, q.2⟩
  case done =>
    rintro D ys W hD hys ⟨h1, h2, h3, h4⟩ hK
    have HZ : Hid (checkE t = 0) := by
      have := h4 []
      rw [List.append_nil, hys] at this
      exact this
    have c1 := row_cellT h1 0 _ rfl
    have f1 := row_frozen h1 0
    obtain ⟨W', hW'⟩ : ∃ W', W.setCell ⟨w.heap.size + 1, 0, none⟩ (.int .i64 0) = W' := ⟨_, rfl⟩
    have hdl := hF.out.2.1
    have hm : Moved (fun g => g = w.heap.size + 1) W W' := by rw [← hW']; exact Moved.setCell (S := fun g => g = w.heap.size + 1) (p := ⟨w.heap.size + 1, 0, none⟩) (Moved.refl _ W) (fun _ => rfl) _
    have hK' := hm.heap hK (by omega)
    have hb' : W'.heap[w.heap.size + 1]? = some (.cells #[.int .i64 0] 28 (0, 0)) := by rw [← hW']; have := heap_setCell_same W (w.heap.size + 1) 0 _ _ (.int .i64 0) h1; simpa using this
    have hg' : Grew w W' := Moved.fresh h3 hm (fun g h => by omega)
    have HB := Lib.hid (And.intro hb' hg')
    have HKK := Lib.hid hK'
    have HDL : Hid (w.heap.size + 4 ≤ D) := by show _ ≤ _; omega
    clear h1 h2 h3 h4 hys hm hK hK' hb' hg' hD hdl hn hV HW2
    gi_wp2
    refine ⟨by simp, .inl ⟨_, _, rfl, run_takeDeferred HKK.out, ?_⟩⟩
    have hput : Grew w (W'.putObj D (.deferred none)) := grew_turn HB.out.2 (grownBy_putObj' W' D _) (fun r e => by cases e; exact Nat.le_refl _) (by have := HDL.out; omega)
    have hcell := row_cellT ((World.putObj_heap_other (by have := HDL.out; omega : w.heap.size + 1 ≠ D)).trans HB.out.1 : (W'.putObj D (.deferred none)).heap[w.heap.size + 1]? = _) 0 _ rfl
    refine ⟨.int .i64 0, by simp [results, Try.results17, go_sem, hcell], by rw [HZ.out], hput⟩
  case stop =>
    rintro D c pre W' hD ⟨zs, hpre⟩ ⟨rfl, e, h1, h2, h3⟩ hK
    have HZ : Hid (checkE t = e) := by
      have := h3 zs
      rw [hpre] at this
      exact this
    have hdl := hF.out.2.1
    have HB := Lib.hid (And.intro h1 h2)
    have HKK := Lib.hid hK
    have HDL : Hid (w.heap.size + 4 ≤ D) := by show _ ≤ _; omega
    clear h1 h2 h3 hpre hK hD hdl hn hV HW2
    gi_wp2
    refine ⟨by simp, .inl ⟨_, _, rfl, run_takeDeferred HKK.out, ?_⟩⟩
    have hput : Grew w (W'.putObj D (.deferred none)) := grew_turn HB.out.2 (grownBy_putObj' W' D _) (fun r e => by cases e; exact Nat.le_refl _) (by have := HDL.out; omega)
    have hcell := row_cellT ((World.putObj_heap_other (by have := HDL.out; omega : w.heap.size + 1 ≠ D)).trans HB.out.1 : (W'.putObj D (.deferred none)).heap[w.heap.size + 1]? = _) 0 _ rfl
    refine ⟨.int .i64 e, by simp [results, Try.results17, go_sem, hcell], by rw [HZ.out], hput⟩
end Go.Proofs.Ytfbeepkogcmlmaa

/-
  Keys: the sorted tree, plain; rows of one's own under a store; children in another order. Conditions: none.
-/
namespace Go.Proofs.Ytfbeepkogcmlmaa
open Go Go.ChangeShapes Go.WideShapes Go.ChangeAt Go.RowKit Go.Joins Go.Deep
set_option linter.unusedVariables false
set_option linter.unusedSimpArgs false

/-! ### sorting by key -/
def insP {α : Type} (x : ByteArray × α) : List (ByteArray × α) → List (ByteArray × α)
  | [] => [x]
  | y :: r => if ltS x.1 y.1 = true then x :: y :: r else y :: insP x r
def sortP {α : Type} (l : List (ByteArray × α)) : List (ByteArray × α) := l.foldr insP []
section
variable {α β : Type}
theorem insP_perm (x : ByteArray × α) : ∀ l : List (ByteArray × α), (insP x l).Perm (x :: l)
  | [] => .refl _
  | y :: r => by
    unfold insP
    split
    · exact .refl _
    · exact ((insP_perm x r).cons y).trans (.swap x y r)
theorem sortP_perm : ∀ l : List (ByteArray × α), (sortP l).Perm l
  | [] => .refl _
  | x :: r => (insP_perm x (sortP r)).trans ((sortP_perm r).cons x)
theorem insP_sorted (x : ByteArray × α) : ∀ l : List (ByteArray × α), l.Pairwise (fun a b => ltS a.1 b.1 = true) → (∀ y ∈ l, y.1 ≠ x.1) → (insP x l).Pairwise (fun a b => ltS a.1 b.1 = true)
  | [], _, _ => by simp [insP]
  | y :: r, h, hne => by
    obtain ⟨h1, h2⟩ := List.pairwise_cons.1 h
    unfold insP
    split
    · rename_i hlt
      refine List.pairwise_cons.2 ⟨fun z hz => ?_, h⟩
      rcases List.mem_cons.1 hz with rfl | hz
      · exact hlt
      · exact ltS_trans hlt (h1 z hz)
    · rename_i hnl
      have hyx : ltS y.1 x.1 = true := by
        cases hq : ltS y.1 x.1
        · exact absurd (ltS_total hq (by simpa using hnl)) (hne y (by simp))
        · rfl
      refine List.pairwise_cons.2 ⟨fun z hz => ?_, insP_sorted x r h2 (fun z hz => hne z (by simp [hz]))⟩
      rcases List.mem_cons.1 ((insP_perm x r).mem_iff.1 hz) with rfl | hz
      · exact hyx
      · exact h1 z hz
theorem sortP_sorted : ∀ l : List (ByteArray × α), (l.map Prod.fst).Nodup → (sortP l).Pairwise (fun a b => ltS a.1 b.1 = true)
  | [], _ => List.Pairwise.nil
  | x :: r, h => by
    obtain ⟨h1, h2⟩ := List.nodup_cons.1 (by simpa using h : (x.1 :: r.map Prod.fst).Nodup)
    exact insP_sorted x (sortP r) (sortP_sorted r h2) (fun y hy e => h1 (List.mem_map.2 ⟨y, (sortP_perm r).mem_iff.1 hy, e⟩))
theorem eq_of_strict : ∀ (l m : List (ByteArray × α)), l.Perm m → l.Pairwise (fun a b => ltS a.1 b.1 = true) → m.Pairwise (fun a b => ltS a.1 b.1 = true) → l = m
  | [], m, hp, _, _ => by simpa using hp
  | x :: r, [], hp, _, _ => by simp at hp
  | x :: r, y :: q, hp, h1, h2 => by
    obtain ⟨a1, a2⟩ := List.pairwise_cons.1 h1
    obtain ⟨b1, b2⟩ := List.pairwise_cons.1 h2
    have hxy : x = y := by
      rcases List.mem_cons.1 (hp.mem_iff.1 (by simp : x ∈ x :: r)) with h | h
      · exact h
      · rcases List.mem_cons.1 (hp.mem_iff.2 (by simp : y ∈ y :: q)) with h' | h'
        · exact h'.symm
        · have e1 := b1 x h
          have e2 := a1 y h'
          have := ltS_trans e1 e2
          rw [ltS_irrefl] at this; cases this
    subst hxy
    rw [eq_of_strict r q (List.Perm.cons_inv hp) a2 b2]
theorem insP_map (f : α → β) (x : ByteArray × α) : ∀ l : List (ByteArray × α), (insP x l).map (fun p => (p.1, f p.2)) = insP (x.1, f x.2) (l.map fun p => (p.1, f p.2))
  | [] => rfl
  | y :: r => by
    simp only [insP, List.map_cons]
    split
    · rfl
    · simp [insP_map f x r]
theorem sortP_map (f : α → β) : ∀ l : List (ByteArray × α), (sortP l).map (fun p => (p.1, f p.2)) = sortP (l.map fun p => (p.1, f p.2))
  | [] => rfl
  | x :: r => by
    show (insP x (sortP r)).map _ = insP _ (sortP (r.map _))
    rw [insP_map, sortP_map f r]
end
mutual
/-- The tree with its maps' entries in the order of their keys. -/
def sortT : Tr → Tr | .mk k n u s keys l => if k = 17 then .mk k n u s ((sortP (keys.zip (sortL l))).map Prod.fst) ((sortP (keys.zip (sortL l))).map Prod.snd) else .mk k n u s keys (sortL l)
def sortL : List Tr → List Tr | [] => [] | t :: r => sortT t :: sortL r
end
theorem sortL_map : ∀ l : List Tr, sortL l = l.map sortT
  | [] => rfl
  | t :: r => by simp [sortL, sortL_map r]
/-- The permutation that Order hands back sorts. -/
theorem perm_sortP {α : Type} {keys : List ByteArray} {l : List α} (hl : keys.length = l.length) {p : List (Fin keys.length)} (hp : p.Perm (List.finRange keys.length)) (hs : ∀ (i j : Nat) x y, i < j → p[i]? = some x → p[j]? = some y → ltS keys[x] keys[y] = true) (z : ByteArray × α) :
    p.map (fun x => (keys.zip l).getD x.1 z) = sortP (keys.zip l) := by
  have hz : (keys.zip l).length = keys.length := by simp [hl]
  have hfst : ∀ x : Fin keys.length, ((keys.zip l).getD x.1 z).1 = keys[x] := fun x => by
    rw [List.getD_eq_getElem?_getD, List.getElem?_eq_getElem (by rw [hz]; exact x.2)]
    simp
  have hall : (List.finRange keys.length).map (fun x => (keys.zip l).getD x.1 z) = keys.zip l := by
    apply List.ext_getElem (by simp [hl])
    intro i h1 h2
    rw [List.getElem_map, List.getElem_finRange]
    simp only [Fin.cast_mk] at *
    rw [List.getD_eq_getElem?_getD, List.getElem?_eq_getElem (by simpa using h2)]
    rfl
  have hnd : keys.Nodup := strict_nodup hp hs
  refine eq_of_strict _ _ (((hp.map _).trans (by rw [hall])).trans (sortP_perm _).symm) ?_ (sortP_sorted _ (by rw [List.map_fst_zip (by omega)]; exact hnd))
  rw [List.pairwise_iff_getElem]
  intro i j h1 h2 hij
  rw [List.getElem_map, List.getElem_map, hfst, hfst]
  exact hs i j _ _ hij (List.getElem?_eq_getElem (by simpa using h1)) (List.getElem?_eq_getElem (by simpa using h2))

/-! ### trees that can be sorted -/
mutual
def okT : Tr → Prop | .mk k n u s keys l => (k = 17 → keys.Nodup ∧ keys.length = l.length) ∧ keys.length ≤ 4096 ∧ l.length ≤ 4096 ∧ okL l
def okL : List Tr → Prop | [] => True | t :: r => okT t ∧ okL r
end
theorem okL_mem {l : List Tr} (h : okL l) {x : Tr} (hx : x ∈ l) : okT x := by
  induction l with
  | nil => cases hx
  | cons t r ih =>
    simp only [okL] at h
    rcases List.mem_cons.1 hx with rfl | hx
    · exact h.1
    · exact ih h.2 hx
mutual
theorem okT_few : ∀ {t : Tr}, okT t → Few t
  | .mk k n u s keys l, h => by
    simp only [okT] at h
    simp only [Few]
    exact ⟨h.2.1, h.2.2.1, okL_few h.2.2.2⟩
theorem okL_few : ∀ {l : List Tr}, okL l → FewL l
  | [], _ => trivial
  | t :: r, h => by
    simp only [okL] at h
    simp only [FewL]
    exact ⟨okT_few h.1, okL_few h.2⟩
end
theorem checkL_zero : ∀ (L : List (Nat × Tr)) (c : Nat), checkL c L = 0 → (L ≠ [] → L.length + c ≤ 4096) ∧ ∀ p ∈ L, p.1 < 64 ∧ suchB p.2 = true ∧ keyedE p.2 = 0
  | [], c, _ => ⟨fun h => absurd rfl h, by simp⟩
  | (b, x) :: r, c, h => by
    simp only [checkL] at h
    by_cases h1 : 4096 < c + 1
    · rw [if_pos h1] at h; cases h
    rw [if_neg h1] at h
    by_cases h2 : 64 ≤ b
    · rw [if_pos h2] at h; cases h
    rw [if_neg h2] at h
    by_cases h3 : suchB x = false
    · rw [if_pos h3] at h; cases h
    rw [if_neg h3] at h
    by_cases h4 : keyedE x ≠ 0
    · rw [if_pos h4] at h; exact absurd h h4
    rw [if_neg h4] at h
    obtain ⟨i1, i2⟩ := checkL_zero r (c + 1) h
    refine ⟨fun _ => ?_, fun p hp => ?_⟩
    · by_cases hr : r = []
      · subst hr; simp; omega
      · have := i1 hr; simp only [List.length_cons]; omega
    · rcases List.mem_cons.1 hp with rfl | hp
      · exact ⟨by show b < 64; omega, by simpa using h3, by simpa using h4⟩
      · exact i2 p hp
theorem keysE_zero : ∀ (l had : List ByteArray), keysE had l = 0 → l.Nodup ∧ (∀ k ∈ l, zeroB k = false ∧ k ∉ had)
  | [], _, _ => ⟨List.nodup_nil, by simp⟩
  | k :: r, had, h => by
    simp only [keysE] at h
    by_cases h1 : zeroB k = true
    · rw [if_pos h1] at h; cases h
    rw [if_neg h1] at h
    by_cases h2 : seenB k had = true
    · rw [if_pos h2] at h; cases h
    rw [if_neg h2] at h
    obtain ⟨i1, i2⟩ := keysE_zero r (had ++ [k]) h
    refine ⟨List.nodup_cons.2 ⟨fun hk => (i2 k hk).2 (by simp), i1⟩, fun x hx => ?_⟩
    rcases List.mem_cons.1 hx with rfl | hx
    · exact ⟨by simpa using h1, fun hm => h2 ((seenB_iff _ _).2 hm)⟩
    · exact ⟨(i2 x hx).1, fun hm => (i2 x hx).2 (by simp [hm])⟩
theorem okN_of {k n u : Int} {s : ByteArray} {keys : List ByteArray} {l : List Tr} (h1 : suchB (.mk k n u s keys l) = true) (h2 : keyedE (.mk k n u s keys l) = 0) : (k = 17 → keys.Nodup ∧ keys.length = l.length) ∧ (k ≠ 17 → keys = []) := by
  constructor
  · rintro rfl
    simp only [keyedE] at h2
    rw [if_neg (by simp)] at h2
    refine ⟨(keysE_zero _ _ h2).1, ?_⟩
    simp only [suchB, Bool.and_eq_true, Bool.or_eq_true, decide_eq_true_eq] at h1
    have h3 := h1.1.1.2
    simpa using h3
  · intro hk
    simp only [suchB, Bool.and_eq_true, Bool.or_eq_true, decide_eq_true_eq] at h1
    have hu : usesF k ≠ 8 := by
      have h17 := h1.1.1.1.1.1.1.1.1
      unfold usesF
      repeat' split
      all_goals omega
    rcases h1.1.1.1.1.2 with h | h
    · exact absurd h hu
    · exact List.length_eq_zero_iff.1 h
mutual
theorem okT_of : ∀ (t : Tr) (b : Nat), t.size ≤ 4096 → (∀ p ∈ preT b t, suchB p.2 = true ∧ keyedE p.2 = 0) → okT t
  | .mk k n u s keys l, b, hz, h => by
    simp only [preT, List.mem_cons] at h
    have h0 := h _ (.inl rfl)
    have hk := okN_of h0.1 h0.2
    simp only [Tr.size] at hz
    have hl := length_sizeL l
    simp only [okT]
    refine ⟨hk.1, ?_, by omega, okL_of l (b + 1) (by omega) (fun p hp => h p (.inr hp))⟩
    by_cases e : k = 17
    · have := (hk.1 e).2; omega
    · rw [hk.2 e]; simp
theorem okL_of : ∀ (l : List Tr) (b : Nat), sizeL l ≤ 4096 → (∀ p ∈ preL b l, suchB p.2 = true ∧ keyedE p.2 = 0) → okL l
  | [], _, _, _ => trivial
  | t :: r, b, hz, h => by
    simp only [sizeL] at hz
    simp only [preL, List.mem_append] at h
    simp only [okL]
    exact ⟨okT_of t b (by omega) (fun p hp => h p (.inl hp)), okL_of r b (by omega) (fun p hp => h p (.inr hp))⟩
end
theorem okT_check {t : Tr} (h : checkE t = 0) : okT t ∧ t.size ≤ 4096 := by
  obtain ⟨h1, h2⟩ := checkL_zero _ 0 h
  have hz : t.size ≤ 4096 := by
    have := h1 (by cases t; simp [preT])
    rw [preT_length] at this
    omega
  exact ⟨okT_of t 0 hz (fun p hp => (h2 p hp).2), hz⟩

/-! ### rows under a store -/
theorem set6_flat : ∀ (vs : List Value) (i : Nat), (∀ x ∈ vs, Node6 x) → i < vs.length → ∀ c0 c1 c2 c3 c4 c5 : Value,
    ((((((vs.flatMap cells6).set (i * 6) c0).set (i * 6 + 1) c1).set (i * 6 + 2) c2).set (i * 6 + 3) c3).set (i * 6 + 4) c4).set (i * 6 + 5) c5 = (vs.set i (.agg #[c0, c1, c2, c3, c4, c5])).flatMap cells6
  | [], _, _, h => by simp at h
  | y :: r, i, h6, h => by
    intro c0 c1 c2 c3 c4 c5
    obtain ⟨k, n, u, s, a4, n4, q4, a5, n5, q5, rfl⟩ := h6 y (by simp)
    cases i with
    | zero => simp [cells6]
    | succ i =>
      have ih := set6_flat r i (fun x hx => h6 x (by simp [hx])) (by simpa using h) c0 c1 c2 c3 c4 c5
      simp only [List.flatMap_cons, List.set_cons_succ]
      rw [← ih]
      have e : ∀ (q : Nat), (i + 1) * 6 + q = i * 6 + q + 6 := fun q => by omega
      rw [show (i + 1) * 6 = i * 6 + 6 by omega]
      simp [cells6, Nat.add_assoc, show ∀ q : Nat, i * 6 + (6 + q) = i * 6 + q + 6 from fun q => by omega]
theorem OwnN.stored {w : World} {B g cap n i : Nat} {vs : List Value} (h : OwnN w B (.slice (some ⟨g, 0, none⟩) n cap) vs) (hi : i < vs.length) {x : Value} (hx : Node6 x) {c0 c1 c2 c3 c4 c5 : Value} (e : x = .agg #[c0, c1, c2, c3, c4, c5]) :
    OwnN ((((((w.setCell ⟨g, i * 6, none⟩ c0).setCell ⟨g, i * 6 + 1, none⟩ c1).setCell ⟨g, i * 6 + 2, none⟩ c2).setCell ⟨g, i * 6 + 3, none⟩ c3).setCell ⟨g, i * 6 + 4, none⟩ c4).setCell ⟨g, i * 6 + 5, none⟩ c5) B (.slice (some ⟨g, 0, none⟩) n cap) (vs.set i x) := by
  obtain ⟨hr, h6⟩ := h
  have hn : n = vs.length := by
    obtain ⟨a, c, e, _⟩ := rows_form hr
    injection e
  subst hn
  have q := (((((hr.stored (i * 6) c0).1.stored (i * 6 + 1) c1).1.stored (i * 6 + 2) c2).1.stored (i * 6 + 3) c3).1.stored (i * 6 + 4) c4).1.stored (i * 6 + 5) c5
  rw [set6_flat vs i h6 hi, ← e] at q
  refine ⟨by rw [List.length_set]; exact q.1, fun y hy => ?_⟩
  rcases List.mem_or_eq_of_mem_set hy with hy | rfl
  · exact h6 y hy
  · exact hx
theorem OwnS.stored {w : World} {B g cap n : Nat} {ss : List ByteArray} (h : OwnS w B (.slice (some ⟨g, 0, none⟩) n cap) ss) (i : Nat) (x : ByteArray) :
    OwnS (w.setCell ⟨g, i, none⟩ (.string x)) B (.slice (some ⟨g, 0, none⟩) n cap) (ss.set i x) := by
  have hn : n = ss.length := by
    obtain ⟨a, c, e, _⟩ := rows_form h
    injection e
  subst hn
  have q := (World.ownsRow.stored h i (.string x)).1
  unfold OwnS
  rw [List.length_set, List.map_set]
  exact q
theorem rows_frozen {w : World} {B : Nat} {e : TypeId} {size n g c : Nat} {xs : List Value} (h : w.ownsRow B e size (.slice (some ⟨g, 0, none⟩) n c) n xs) (j : Nat) : w.frozen? ⟨g, j, none⟩ = false := by
  rcases h.2 with ⟨q, _⟩ | ⟨g', cap, cur, q, _, hg, _⟩
  · cases q
  · cases q; exact frozen_of_row w g j cur e hg

/-! ### children in another order -/
section
variable {w : World} {B : Nat}
theorem KidsO.idx : ∀ {l : List Tr} {vs : List Value} {S : Nat → Prop}, KidsO w B l vs S → ∃ f : Nat → Nat → Prop, (∀ i g, f i g → S g) ∧ (∀ i j g, i ≠ j → f i g → ¬ f j g) ∧ ∀ i x v, l[i]? = some x → vs[i]? = some v → OwnT w B x v (f i)
  | [], _, _, _ => ⟨fun _ _ => False, fun _ _ h => h.elim, fun _ _ _ _ h => h.elim, by simp⟩
  | t :: r, _, S, h => by
    simp only [KidsO] at h
    obtain ⟨v, vr, S1, S2, rfl, h1, h2, h3, h4, h5⟩ := h
    obtain ⟨f, f1, f2, f3⟩ := KidsO.idx h5
    refine ⟨fun i => match i with | 0 => S1 | i + 1 => f i, ?_, ?_, ?_⟩
    · intro i g hg
      cases i with
      | zero => exact h1 g hg
      | succ i => exact h2 g (f1 i g hg)
    · intro i j g hij hi hj
      cases i with
      | zero =>
        cases j with
        | zero => exact hij rfl
        | succ j => exact h3 g hi (f1 j g hj)
      | succ i =>
        cases j with
        | zero => exact h3 g hj (f1 i g hi)
        | succ j => exact f2 i j g (by omega) hi hj
    · intro i x u hx hu
      cases i with
      | zero => simp at hx hu; subst hx hu; exact h4
      | succ i => exact f3 i x u (by simpa using hx) (by simpa using hu)
theorem KidsO.of_idx : ∀ {l : List Tr} {vs : List Value} {S : Nat → Prop} (f : Nat → Nat → Prop), vs.length = l.length → (∀ i g, f i g → S g) → (∀ i j g, i ≠ j → f i g → ¬ f j g) → (∀ i x v, l[i]? = some x → vs[i]? = some v → OwnT w B x v (f i)) → KidsO w B l vs S
  | [], vs, _, _, hl, _, _, _ => List.length_eq_zero_iff.1 hl
  | t :: r, [], _, _, hl, _, _, _ => by simp at hl
  | t :: r, v :: vr, S, f, hl, h1, h2, h3 => by
    simp only [KidsO]
    refine ⟨v, vr, f 0, fun g => ∃ i, f (i + 1) g, rfl, h1 0, fun g ⟨i, hi⟩ => h1 _ g hi, fun g hg ⟨i, hi⟩ => h2 0 (i + 1) g (by omega) hg hi, h3 0 t v rfl rfl, ?_⟩
    exact KidsO.of_idx (fun i => f (i + 1)) (by simpa using hl) (fun i g hg => ⟨i, hg⟩) (fun i j g hij hi hj => h2 (i + 1) (j + 1) g (by omega) hi hj) (fun i x u hx hu => h3 (i + 1) x u (by simpa using hx) (by simpa using hu))
theorem KidsO.perm {l : List Tr} {vs : List Value} {S : Nat → Prop} (h : KidsO w B l vs S) {n : Nat} (hn : l.length = n) {p : List (Fin n)} (hp : p.Perm (List.finRange n)) (zt : Tr) (zv : Value) :
    KidsO w B (p.map fun x => l.getD x.1 zt) (p.map fun x => vs.getD x.1 zv) S := by
  have hl := h.length
  obtain ⟨f, f1, f2, f3⟩ := h.idx
  have hnd : p.Nodup := hp.nodup_iff.2 (List.nodup_finRange n)
  refine KidsO.of_idx (fun i g => ∃ q, p[i]? = some q ∧ f q.1 g) (by simp) (fun i g ⟨q, _, hq⟩ => f1 _ g hq) ?_ ?_
  · rintro i j g hij ⟨q, hq, hf⟩ ⟨q', hq', hf'⟩
    refine f2 q.1 q'.1 g (fun e => hij ?_) hf hf'
    obtain ⟨hi, hi'⟩ := List.getElem?_eq_some_iff.1 hq
    obtain ⟨hj, hj'⟩ := List.getElem?_eq_some_iff.1 hq'
    have hpw := List.pairwise_iff_getElem.1 hnd
    rcases Nat.lt_trichotomy i j with h | h | h
    · exact absurd (by rw [hi', hj']; exact Fin.ext e) (hpw i j hi hj h)
    · exact h
    · exact absurd (by rw [hi', hj']; exact Fin.ext e.symm) (hpw j i hj hi h)
  · intro i x v hx hv
    rw [List.getElem?_map] at hx hv
    cases hq : p[i]? with
    | none => rw [hq] at hx; cases hx
    | some q =>
      rw [hq] at hx hv
      simp only [Option.map_some, Option.some.injEq] at hx hv
      have hlt : q.1 < l.length := by omega
      have := f3 q.1 x v (by rw [← hx, List.getD_eq_getElem?_getD, List.getElem?_eq_getElem hlt]; rfl) (by rw [← hv, List.getD_eq_getElem?_getD, List.getElem?_eq_getElem (by omega)]; rfl)
      exact this.mono (fun g hg => ⟨q, rfl, hg⟩)
end
end Go.Proofs.Ytfbeepkogcmlmaa

/-
  Plain lemma, no program: a region that leaves its order open, each of its operations with a step relation of its own.
-/
namespace Go.Proofs.Ytfbeepkogcmlmaa
set_option linter.unusedSimpArgs false
set_option linter.unusedVariables false
open Go Go.RowKit
section
variable {P : Program} {ops : Array Oper}
/-- One operation's word: whenever it comes up, with what it waits for done, it goes on with its fact. -/
def opWordT (P : Program) (ops : Array Oper) (m : Nat) (I : World → Prop) (T : Nat → World → World → Prop) (R : World → World → Prop) (D : Array (List Nat)) (Φ : Nat → (Nat → Value) → Value → World → Prop) (a0 : Act) (w0 : World) (i : Nat) (o : Oper) : Prop :=
  ∀ (y : Nat → Value) (w : World), R w0 w → (i = m → I w) → (∀ j ∈ D.getD i [], Φ j y (y j) w) → ∀ K : Act → World → Prop,
    (∀ v w', T i w w' → Φ i y v w' → K ((fillL y (canonL ops D i) a0).put o.dst v) w') →
    if Region.wanted o (yielded ops (fillL y (canonL ops D i) a0).tmps) then o.wp P (fillL y (canonL ops D i) a0) w K (fun _ _ _ => False) else K ((fillL y (canonL ops D i) a0).put o.dst undef) w

structure InvFT (ops : Array Oper) (m : Nat) (I : World → Prop) (R : World → World → Prop) (D : Array (List Nat)) (Φ : Nat → (Nat → Value) → Value → World → Prop) (a0 : Act) (w0 : World) (listed : Array Bool) (a : Act) (w : World) (y : Nat → Value) : Prop where
  size : listed.size = ops.size
  act : a = fillL y (pairsOf ops) a0
  grown : R w0 w
  pre : listed.getD m false = false → I w
  facts : ∀ j, listed.getD j false = true → Φ j y (y j) w
  open_ : ∀ j d, listed.getD j true = false → (ops[j]?).bind (·.dst) = some d → a0.put (some d) (y j) = a0
  closed : ∀ j, listed.getD j false = true → ∀ k ∈ D.getD j [], listed.getD k false = true

theorem wpAny_of_factsT {m : Nat} {I : World → Prop} {T : Nat → World → World → Prop} {R : World → World → Prop} {D : Array (List Nat)} {Φ : Nat → (Nat → Value) → Value → World → Prop} {a0 : Act} {w0 : World} {Q : Exit → Act → World → Prop}
    (hRt : ∀ {a b c : World}, R a b → R b c → R a c) (hTR : ∀ i w w', T i w w' → R w w') (hTr : ∀ i w, T i w w) (hTI : ∀ i, i ≠ m → ∀ w w', T i w w' → I w → I w') (hcg : ∀ j y y' v w, (∀ k ∈ D.getD j [], y k = y' k) → Φ j y v w → Φ j y' v w) (hchk : factsOK ops D = true) (hst : ∀ i j, i ≠ j → ∀ y v w w', T i w w' → Φ j y v w → Φ j y v w') (hrr : ∀ w, R w w)
    (hop : ∀ i o, ops[i]? = some o → opWordT P ops m I T R D Φ a0 w0 i o)
    (hfin : ∀ y w, R w0 w → (∀ j, j < ops.size → Φ j y (y j) w) → Q .normal (fillL y (pairsOf ops) a0) w) :
    ∀ (fuel : Nat) (listed : Array Bool) (a : Act) (w : World) (y : Nat → Value), ((List.range ops.size).filter fun j => !listed.getD j true).length ≤ fuel →
      InvFT ops m I R D Φ a0 w0 listed a w y → wpAny P .any ops Q fuel listed a w := by
  simp only [factsOK, Bool.and_eq_true, List.all_eq_true, List.mem_range] at hchk
  obtain ⟨hkeys, hrows⟩ := hchk
  -- nothing ready: all has been listed
  have hall : ∀ (listed : Array Bool), listed.size = ops.size → Region.ready .any ops listed = [] → ∀ j, j < ops.size → listed.getD j false = true := by
    intro listed hs hnil j
    induction j using Nat.strongRecOn with
    | ind j ih =>
      intro hj
      cases hl : listed.getD j false with
      | true => rfl
      | false =>
        exfalso
        have hmem : j ∈ Region.ready .any ops listed := by
          rw [mem_ready]
          refine ⟨by rw [listed_cases (by omega)]; exact hl, ops[j], Array.getElem?_eq_getElem hj, fun e he hb => ?_⟩
          have hrow := hrows j hj
          rw [Array.getElem?_eq_getElem hj] at hrow
          simp only [Bool.and_eq_true, List.all_eq_true, decide_eq_true_eq] at hrow
          have hlt := hrow.1 e.on (List.mem_map.2 ⟨e, List.mem_filter.2 ⟨by simpa using he, hb⟩, rfl⟩)
          exact ih e.on hlt (by omega)
        rw [hnil] at hmem
        cases hmem
  have hdone : ∀ (listed : Array Bool) (a : Act) (w : World) (y : Nat → Value), InvFT ops m I R D Φ a0 w0 listed a w y → Region.ready .any ops listed = [] → Q .normal a w := by
    intro listed a w y hI hnil
    rw [hI.act]
    exact hfin y w hI.grown (fun j hj => hI.facts j (hall listed hI.size hnil j hj))
  intro fuel
  induction fuel with
  | zero =>
    intro listed a w y hlen hI
    have hnil : Region.ready .any ops listed = [] := by
      have h0 : ((List.range ops.size).filter fun j => !listed.getD j true) = [] := List.length_eq_zero_iff.1 (by omega)
      refine List.eq_nil_iff_forall_not_mem.2 fun j hj => ?_
      have hj' := mem_ready.1 hj
      have : j ∈ ((List.range ops.size).filter fun j => !listed.getD j true) := by
        obtain ⟨hl, o, ho, _⟩ := hj'
        exact List.mem_filter.2 ⟨List.mem_range.2 (Array.getElem?_eq_some_iff.1 ho).1, by simp [hl]⟩
      rw [h0] at this
      cases this
    exact ⟨hnil, hdone listed a w y hI hnil⟩
  | succ fuel ih =>
    intro listed a w y hlen hI
    refine ⟨hdone listed a w y hI, fun i hi => ?_⟩
    obtain ⟨hun, o, ho, hedges⟩ := mem_ready.1 hi
    have hilt : i < ops.size := (Array.getElem?_eq_some_iff.1 ho).1
    have hunf : listed.getD i false = false := by rw [← listed_cases (by rw [hI.size]; exact hilt)]; exact hun
    have hrow := hrows i hilt
    rw [ho] at hrow
    simp only [Bool.and_eq_true, List.all_eq_true, decide_eq_true_eq, List.any_eq_true, Bool.or_eq_true, beq_iff_eq, List.contains_iff_mem] at hrow
    -- what i waits for has been listed
    have hD : ∀ k ∈ D.getD i [], listed.getD k false = true := by
      intro k hk
      obtain ⟨e, he, hek⟩ := hrow.2 k hk
      obtain ⟨ed, hed, rfl⟩ := List.mem_map.1 he
      obtain ⟨hed1, hed2⟩ := List.mem_filter.1 hed
      have hl := hedges ed (by simpa using hed1) hed2
      rcases hek with rfl | hek
      · exact hl
      · exact hI.closed _ hl k hek
    have hcan : fillL y (canonL ops D i) a0 = a := by
      rw [hI.act]
      refine fillL_filter y _ _ a0 hkeys ?_
      rintro ⟨d, j⟩ hq hp
      simp only [Bool.not_eq_false', Bool.or_eq_true, beq_iff_eq] at hp
      have hdst := mem_pairsOf.1 hq
      refine hI.open_ j d ?_ hdst
      rcases hp with rfl | hw
      · exact hun
      · have hjlt : j < listed.size := by
          rw [hI.size]
          rcases Nat.lt_or_ge j ops.size with h' | h'
          · exact h'
          · rw [Array.getElem?_eq_none h'] at hdst; cases hdst
        rw [listed_cases hjlt]
        cases hl : listed.getD j false with
        | false => rfl
        | true =>
          have := hI.closed j hl i (by simpa [waits] using hw)
          rw [hunf] at this
          cases this
    have hw := hop i o ho y w hI.grown (fun e => hI.pre (by rw [← e]; exact hunf)) (fun j hj => hI.facts j (hD j hj)) (fun a' w' => ∃ v, a' = a.put o.dst v ∧ T i w w' ∧ Φ i y v w')
    rw [hcan] at hw
    have hlen' : ((List.range ops.size).filter fun j => !(listed.setIfInBounds i true).getD j true).length ≤ fuel := by
      have : ((List.range ops.size).filter fun j => !(listed.setIfInBounds i true).getD j true).length < ((List.range ops.size).filter fun j => !listed.getD j true).length := by
        refine filter_lt _ i (fun j hj => ?_) (List.mem_range.2 hilt) (by rw [hun]; rfl) ?_
        · by_cases hij : i = j
          · subst hij
            have h2 : i < listed.size := by rw [hI.size]; exact hilt
            simp [h2] at hj
          · rw [getD_set_ne true hij] at hj; exact hj
        · have h2 : i < listed.size := by rw [hI.size]; exact hilt
          simp [h2]
      omega
    have hnext : ∀ v w', T i w w' → Φ i y v w' → wpAny P .any ops Q fuel (listed.setIfInBounds i true) (a.put o.dst v) w' := by
      intro v w' hr0 hφ
      have hr : R w w' := hTR _ _ _ hr0
      have hag : ∀ j, listed.getD j false = true ∨ j = i → ∀ k ∈ D.getD j [], y k = (if k = i then v else y k) := by
        intro j hj k hk
        have hkl : listed.getD k false = true := by
          rcases hj with hj | hj
          · exact hI.closed j hj k hk
          · rw [hj] at hk; exact hD k hk
        have hki : k ≠ i := fun e => by rw [e, hunf] at hkl; cases hkl
        rw [if_neg hki]
      have h2 : i < listed.size := by rw [hI.size]; exact hilt
      refine ih _ _ _ (fun k => if k = i then v else y k) hlen' ⟨by simp [hI.size], ?_, hRt hI.grown hr, fun hm => ?_, ?_, ?_, ?_⟩
      · cases hd : o.dst with
        | none =>
          rw [hI.act]
          show fillL y (pairsOf ops) a0 = _
          refine fillL_congr _ _ _ _ fun p hp => ?_
          have := mem_pairsOf.1 (show (p.1, p.2) ∈ pairsOf ops from hp)
          have hne : p.2 ≠ i := fun he => by rw [he, ho] at this; simp [hd] at this
          simp [hne]
        | some d =>
          rw [hI.act, fillL_set y i v _ a0 d hkeys (mem_pairsOf.2 (by simp [ho, hd]))]
      · by_cases him : i = m
        · subst him; simp [h2] at hm
        · rw [getD_set_ne false him] at hm
          exact hTI i him _ _ hr0 (hI.pre hm)
      · intro j hj
        by_cases hji : j = i
        · subst hji
          rw [if_pos rfl]
          exact hcg j y _ v w' (hag j (.inr rfl)) hφ
        · rw [if_neg hji]
          rw [getD_set_ne false (Ne.symm hji)] at hj
          exact hcg j y _ (y j) w' (hag j (.inl hj)) (hst i j (Ne.symm hji) y _ _ _ hr0 (hI.facts j hj))
      · intro j d hj hdst
        have hji : j ≠ i := fun he => by subst he; simp [h2] at hj
        simp only [hji, if_false]
        rw [getD_set_ne true (Ne.symm hji)] at hj
        exact hI.open_ j d hj hdst
      · intro j hj k hk
        by_cases hji : j = i
        · subst hji; exact getD_set_true (hD k hk)
        · rw [getD_set_ne false (Ne.symm hji)] at hj
          exact getD_set_true (hI.closed j hj k hk)
    unfold wpOp
    simp only [ho]
    have hw2 := hw (fun v w' hr hφ => ⟨v, rfl, hr, hφ⟩)
    split at hw2
    · rename_i hwa
      rw [if_pos hwa]
      refine .inl ?_
      have h3 : o.wp P a w (wpAny P .any ops Q fuel (listed.setIfInBounds i true)) (fun _ _ _ => False) :=
        Oper.wp_mono (fun a' w' ⟨v, he, hr, hφ⟩ => by subst he; exact hnext v w' hr hφ) hw2
      exact wp_exit h3
    · rename_i hwa
      rw [if_neg hwa]
      obtain ⟨v, he, hr, hφ⟩ := hw2
      rw [he]
      exact hnext v w hr hφ
where
  wp_exit {o : Oper} {a : Act} {w : World} {K : Act → World → Prop} {Q : Exit → Act → World → Prop} (h : o.wp P a w K (fun _ _ _ => False)) : o.wp P a w K Q := by
    unfold Oper.wp at *
    generalize (execOp a.eval o).run P w = r at *
    cases r with
    | ok n w' =>
      cases n <;> simp only [Oper.upon] at h ⊢
      case enter f args =>
        refine Calls.mono h fun e w'' he => ?_
        cases e with
        | returned v => exact he
        | panicked c => exact he.elim
        | outgrown => obtain ⟨_, _, hq⟩ := he; exact hq.elim
      all_goals exact h
    | halt x w' => cases x <;> simp only [Oper.upon] at h

/-- **A region that draws its order, by facts.** -/
theorem wp_region_factsT {id : Nat} {a0 : Act} {w0 : World} {Q : Exit → Act → World → Prop} (R : World → World → Prop) (m : Nat) (I : World → Prop) (T : Nat → World → World → Prop) (D : Array (List Nat)) (Φ : Nat → (Nat → Value) → Value → World → Prop) (hm : P.follows .mixedOrders = true)
    (hRt : ∀ {a b c : World}, R a b → R b c → R a c) (hrr : ∀ w, R w w) (hTR : ∀ i w w', T i w w' → R w w') (hTr : ∀ i w, T i w w) (hTI : ∀ i, i ≠ m → ∀ w w', T i w w' → I w → I w') (hcg : ∀ j y y' v w, (∀ k ∈ D.getD j [], y k = y' k) → Φ j y v w → Φ j y' v w) (hI0 : I w0.drew) (hd : R w0 w0.drew) (hchk : factsOK ops D = true) (hst : ∀ i j, i ≠ j → ∀ y v w w', T i w w' → Φ j y v w → Φ j y v w')
    (hop : allWords (opWordT P ops m I T R D Φ a0 w0) 0 ops.toList)
    (hfin : ∀ y w, R w0 w → (∀ j, j < ops.size → Φ j y (y j) w) → Q .normal (fillL y (pairsOf ops) a0) w) : (Code.region id ops true).wp P Q a0 w0 := by
  refine wp_region_any hm ?_
  refine wpAny_of_factsT (m := m) (I := I) (T := T) (R := R) (D := D) (Φ := Φ) (a0 := a0) (w0 := w0) hRt hTR hTr hTI hcg hchk hst hrr (fun i o ho => ?_) hfin ops.size _ a0 _ (fun j => match (ops[j]?).bind (·.dst) with | some d => a0.tmps.getD d undef | none => undef) ?_ ⟨by simp, ?_, hd, fun _ => hI0, ?_, ?_, ?_⟩
  · have := allWords_get _ 0 i o hop (by simpa using ho)
    simpa using this
  · exact Nat.le_trans (List.length_filter_le _ _) (by simp)
  · symm
    have : ∀ (L : List (Nat × Nat)), (∀ p ∈ L, (ops[p.2]?).bind (·.dst) = some p.1) → fillL (fun j => match (ops[j]?).bind (·.dst) with | some d => a0.tmps.getD d undef | none => undef) L a0 = a0 := by
      intro L
      induction L with
      | nil => intro _; rfl
      | cons p L ih =>
        intro h
        obtain ⟨d, j⟩ := p
        have hd := h (d, j) (by simp)
        simp only at hd
        show fillL _ L (a0.put (some d) _) = a0
        simp only [hd]
        rw [put_self]
        exact ih (fun p hp => h p (by simp [hp]))
    exact this _ (fun p hp => mem_pairsOf.1 hp)
  · intro j hj
    have h : (Array.replicate ops.size false).getD j false = false := by
      simp [Array.getD]
    rw [h] at hj; cases hj
  · intro j d _ hdst
    simp only [hdst]
    exact put_self a0 d
  · intro j hj
    have h : (Array.replicate ops.size false).getD j false = false := by
      simp [Array.getD]
    rw [h] at hj; cases hj


def depsT (Φ : List ((Nat → Value) → Value → World → Prop)) (y : Nat → Value) (w : World) : List Nat → Prop
  | [] => True
  | j :: r => Φ.getD j (fun _ _ _ => True) y (y j) w ∧ depsT Φ y w r
theorem depsT_of {Φ : List ((Nat → Value) → Value → World → Prop)} {y : Nat → Value} {w : World} : ∀ (d : List Nat), (∀ j ∈ d, Φ.getD j (fun _ _ _ => True) y (y j) w) → depsT Φ y w d
  | [], _ => trivial
  | j :: r, h => ⟨h j (by simp), depsT_of r (fun k hk => h k (by simp [hk]))⟩
def factsT (y : Nat → Value) (w : World) : Nat → List ((Nat → Value) → Value → World → Prop) → Prop
  | _, [] => True
  | i, φ :: r => φ y (y i) w ∧ factsT y w (i + 1) r
theorem factsT_of {Φ0 : List ((Nat → Value) → Value → World → Prop)} {y : Nat → Value} {w : World} : ∀ (Φ : List ((Nat → Value) → Value → World → Prop)) (i : Nat), (∀ k, Φ[k]? = Φ0[i + k]?) → (∀ j, j < i + Φ.length → Φ0.getD j (fun _ _ _ => True) y (y j) w) → factsT y w i Φ
  | [], _, _, _ => trivial
  | φ :: r, i, h, hj => by
    refine ⟨?_, factsT_of r (i + 1) (fun k => ?_) (fun j hj' => hj j (by simp; omega))⟩
    · have h0 := hj i (by simp)
      have := h 0
      simp at this
      simpa [List.getD_eq_getElem?_getD, ← this] using h0
    · have := h (k + 1)
      simp at this
      rw [this]; congr 1; omega
def wordT (P : Program) (ops : Array Oper) (m : Nat) (I : World → Prop) (T : Nat → World → World → Prop) (R : World → World → Prop) (Φ : List ((Nat → Value) → Value → World → Prop)) (a0 : Act) (w0 : World) (i : Nat) (o : Oper) (d : List Nat) (c : List (Nat × Nat)) : Prop :=
  ∀ (y : Nat → Value) (w : World), R w0 w → (i = m → I w) → depsT Φ y w d → ∀ K : Act → World → Prop,
    (∀ a' v w', a' = (fillL y c a0).put o.dst v → T i w w' → Φ.getD i (fun _ _ _ => True) y v w' → K a' w') →
    if Region.wanted o (yielded ops (fillL y c a0).tmps) then o.wp P (fillL y c a0) w K (fun _ _ _ => False) else K ((fillL y c a0).put o.dst undef) w

def allWT (P : Program) (ops : Array Oper) (m : Nat) (I : World → Prop) (T : Nat → World → World → Prop) (R : World → World → Prop) (Φ : List ((Nat → Value) → Value → World → Prop)) (a0 : Act) (w0 : World) : Nat → List Oper → List (List Nat) → List (List (Nat × Nat)) → Prop
  | _, [], _, _ => True
  | i, o :: r, d :: ds, c :: cs => wordT P ops m I T R Φ a0 w0 i o d c ∧ allWT P ops m I T R Φ a0 w0 (i + 1) r ds cs
  | _, _ :: _, _, _ => False

theorem allW_wordsT {m : Nat} {I : World → Prop} {T : Nat → World → World → Prop} {R : World → World → Prop} {Φ : List ((Nat → Value) → Value → World → Prop)} {a0 : Act} {w0 : World} (D0 : List (List Nat)) (C0 : List (List (Nat × Nat))) (hC : ∀ i, i < ops.size → C0.getD i [] = canonL ops D0.toArray i) :
    ∀ (l : List Oper) (i : Nat) (D : List (List Nat)) (C : List (List (Nat × Nat))), i + l.length = ops.size → (∀ k, D[k]? = D0[i + k]?) → (∀ k, C[k]? = C0[i + k]?) → allWT P ops m I T R Φ a0 w0 i l D C →
      allWords (opWordT P ops m I T R D0.toArray (fun j => Φ.getD j (fun _ _ _ => True)) a0 w0) i l := by
  intro l
  induction l with
  | nil => intros; trivial
  | cons o r ih =>
    intro i D C hl hD hC' h
    match D, C, h with
    | d :: ds, c :: cs, h =>
      obtain ⟨h1, h2⟩ := h
      refine ⟨?_, ih (i + 1) ds cs (by simp at hl; omega) (fun k => ?_) (fun k => ?_) h2⟩
      · have hd : D0.toArray.getD i [] = d := by
          have := hD 0
          simp at this
          simp [Array.getD_eq_getD_getElem?, ← this]
        have hc : canonL ops D0.toArray i = c := by
          rw [← hC i (by simp at hl; omega)]
          have := hC' 0
          simp at this
          simp [List.getD_eq_getElem?_getD, ← this]
        intro y w hR hi hj K hK
        rw [hd] at hj
        rw [hc] at hK ⊢
        exact h1 y w hR hi (depsT_of _ hj) K (fun a' v w' he hr hφ => by subst he; exact hK v w' hr hφ)
      · have := hD (k + 1)
        simp at this
        rw [this]; congr 1; omega
      · have := hC' (k + 1)
        simp at this
        rw [this]; congr 1; omega

def stLT (T : Nat → World → World → Prop) : Nat → List ((Nat → Value) → Value → World → Prop) → Prop
  | _, [] => True
  | j, φ :: r => (∀ i, i ≠ j → ∀ y v w w', T i w w' → φ y v w → φ y v w') ∧ stLT T (j + 1) r
theorem stLT_get {T : Nat → World → World → Prop} : ∀ (Φ : List ((Nat → Value) → Value → World → Prop)) (j : Nat), stLT T j Φ → ∀ k φ, Φ[k]? = some φ → ∀ i, i ≠ j + k → ∀ y v w w', T i w w' → φ y v w → φ y v w'
  | φ :: r, j, h, 0, ψ, hk => by
    simp at hk
    subst hk
    exact h.1
  | φ :: r, j, h, k + 1, ψ, hk => by
    intro i hi y v w w' hr
    exact stLT_get r (j + 1) h.2 k ψ (by simpa using hk) i (by omega) y v w w' hr
def cgLT (D : List (List Nat)) : Nat → List ((Nat → Value) → Value → World → Prop) → Prop
  | _, [] => True
  | j, φ :: r => (∀ y y' v w, (∀ k ∈ D.getD j [], y k = y' k) → φ y v w → φ y' v w) ∧ cgLT D (j + 1) r
theorem cgLT_get {D : List (List Nat)} : ∀ (Φ : List ((Nat → Value) → Value → World → Prop)) (j : Nat), cgLT D j Φ → ∀ k φ, Φ[k]? = some φ → ∀ y y' v w, (∀ q ∈ D.getD (j + k) [], y q = y' q) → φ y v w → φ y' v w
  | φ :: r, j, h, 0, ψ, hk => by
    simp at hk
    subst hk
    exact h.1
  | φ :: r, j, h, k + 1, ψ, hk => by
    intro y y' v w hq
    exact cgLT_get r (j + 1) h.2 k ψ (by simpa using hk) y y' v w (by rw [show j + 1 + k = j + (k + 1) by omega]; exact hq)
/-- **A region that draws its order, by facts, the tables written out.** -/
theorem wp_region_tablesT {id : Nat} {a0 : Act} {w0 : World} {Q : Exit → Act → World → Prop} (R : World → World → Prop) (m : Nat) (I : World → Prop) (T : Nat → World → World → Prop) (D : List (List Nat)) (C : List (List (Nat × Nat))) (F : List (Nat × Nat)) (Φ : List ((Nat → Value) → Value → World → Prop)) (hm : P.follows .mixedOrders = true)
    (hRt : ∀ {a b c : World}, R a b → R b c → R a c) (hrr : ∀ w, R w w) (hTR : ∀ i w w', T i w w' → R w w') (hTr : ∀ i w, T i w w) (hTI : ∀ i, i ≠ m → ∀ w w', T i w w' → I w → I w') (hI0 : I w0.drew) (hd : R w0 w0.drew) (hchk : tablesOK ops D C F = true) (hst : stLT T 0 Φ) (hcg : cgLT D 0 Φ)
    (hop : allWT P ops m I T R Φ a0 w0 0 ops.toList D C)
    (hlen : Φ.length = ops.size)
    (hfin : ∀ y w, R w0 w → factsT y w 0 Φ → Q .normal (fillL y F a0) w) : (Code.region id ops true).wp P Q a0 w0 := by
  simp only [tablesOK, Bool.and_eq_true, decide_eq_true_eq, List.all_eq_true, List.mem_range] at hchk
  obtain ⟨⟨h1, h2⟩, h3⟩ := hchk
  subst h2
  refine wp_region_factsT R m I T D.toArray (fun j => Φ.getD j (fun _ _ _ => True)) hm hRt hrr hTR hTr hTI ?_ hI0 hd h1 ?_ (allW_wordsT D C h3 ops.toList 0 D C (by simp) (by simp) (by simp) hop) (fun y w hr hj => hfin y w hr (factsT_of Φ 0 (by simp) (fun j h => hj j (by rw [← hlen]; simpa using h))))
  · intro j y y' v w hk hφ
    rcases Nat.lt_or_ge j Φ.length with hj | hj
    · have e : Φ.getD j (fun _ _ _ => True) = Φ[j] := by simp [List.getD_eq_getElem?_getD, hj]
      rw [e] at hφ ⊢
      refine cgLT_get Φ 0 hcg j _ (List.getElem?_eq_getElem hj) y y' v w ?_ hφ
      intro q hq
      refine hk q ?_
      rw [Nat.zero_add] at hq
      simpa [Array.getD_eq_getD_getElem?, List.getD_eq_getElem?_getD] using hq
    · have e : Φ.getD j (fun _ _ _ => True) = fun _ _ _ => True := by simp [List.getD_eq_getElem?_getD, hj]
      rw [e]; trivial
  · intro i j hij y v w w' hr hφ
    rcases Nat.lt_or_ge j Φ.length with hj | hj
    · have e : Φ.getD j (fun _ _ _ => True) = Φ[j] := by simp [List.getD_eq_getElem?_getD, hj]
      rw [e] at hφ ⊢
      exact stLT_get Φ 0 hst j _ (List.getElem?_eq_getElem hj) i (by rw [Nat.zero_add]; exact hij) y v w w' hr hφ
    · have e : Φ.getD j (fun _ _ _ => True) = fun _ _ _ => True := by simp [List.getD_eq_getElem?_getD, hj]
      rw [e]; trivial

end
end Go.Proofs.Ytfbeepkogcmlmaa
