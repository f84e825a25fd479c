/-
  Texts of the proof, part 8 of 39.
-/
import Derived.Test.YtjnpcddbgfmpcaaGreatPAF
import Derived.Test.YtjnpcddbgfmpcaaGreatPAG
import Derived.Deep.QuietTactic
import Derived.BigQuiet
import Derived.Test.YtjnpcddbgfmpcaaGreatPAC

/-
  Trees: rows of nodes and of strings that the call makes; appending to them; small calls on strings.
-/
namespace Go.Proofs.YtjnpcddbgfmpcaaGreat
open Go Go.ChangeShapes Go.WideShapes Go.ChangeAt Go.RowKit Go.Joins Go.Deep
set_option linter.unusedVariables false
set_option linter.unusedSimpArgs false
theorem row_cellT {w : World} {p : Nat} {cs : Array Value} {t : TypeId} (h : w.heap[p]? = some (.cells cs t (0, 0))) (k : Nat) (v : Value) (hv : cs[k]? = some v) : w.cell? ⟨p, k, none⟩ = some v := by
  rw [cell_of_row w p k _ _ _ h]; exact hv
theorem Tryz.infoStr : (Tryz.prog.info? 9).map (fun i => (i.zero, i.size, i.bytes)) = some (some (.string ⟨#[]⟩), 1, 16) := by kernel_rfl
theorem str_parts : ∃ i0, Tryz.prog.info? 9 = some i0 ∧ i0.zero = some (.string ⟨#[]⟩) ∧ i0.size = 1 ∧ i0.bytes = 16 := by
  have h := Tryz.infoStr
  cases hq : Tryz.prog.info? 9 with
  | none => simp [hq] at h
  | some i => simp [hq] at h; exact ⟨i, rfl, h.1, h.2.1, h.2.2⟩
theorem rows_form {w : World} {B : Nat} {e : TypeId} {size : Nat} {v : Value} {n : Nat} {xs : List Value} (h : w.ownsRow B e size v n xs) : ∃ a c, v = .slice a n c ∧ n ≤ c ∧ lenok c ∧ (a = none → c = 0) := by
  rcases h.2 with ⟨rfl, hn⟩ | ⟨g, cap, cur, rfl, _, _, hn, hm, _⟩
  · exact ⟨none, 0, by rw [hn], by omega, by unfold lenok; omega, fun _ => rfl⟩
  · exact ⟨_, cap, rfl, hn, by unfold maxLen at hm; exact hm, (fun h => by cases h)⟩
theorem rows_base {w : World} {B B' : Nat} {e : TypeId} {size : Nat} {v : Value} {n : Nat} {xs : List Value} (h : w.ownsRow B e size v n xs) (hb : B' ≤ B) : w.ownsRow B' e size v n xs := by
  obtain ⟨h1, h2⟩ := h
  refine ⟨h1, ?_⟩
  rcases h2 with h2 | ⟨g, cap, cur, hv, hg, r⟩
  · exact .inl h2
  · exact .inr ⟨g, cap, cur, hv, by omega, r⟩
theorem rows_grew {w w' : World} {B : Nat} {e : TypeId} {size : Nat} {v : Value} {n : Nat} {xs : List Value} (h : w.ownsRow B e size v n xs) (hg : Grew w w') : w'.ownsRow B e size v n xs := Moved.owns (Moved.of_grew (S := fun _ => False) hg) h (fun _ _ h => h)
def OwnS (w : World) (B : Nat) (v : Value) (ss : List ByteArray) : Prop := w.ownsRow B 9 1 v ss.length (ss.map Value.string)
theorem OwnS.nil (w : World) (B : Nat) : OwnS w B (.slice none 0 0) [] := World.ownsRow_nil _ _ _ _
theorem OwnS.grew {w w' : World} {B : Nat} {v : Value} {ss : List ByteArray} (h : OwnS w B v ss) (hg : Grew w w') : OwnS w' B v ss := rows_grew h hg
theorem add0 (g j : Nat) : (⟨g, 0, none⟩ : Addr).add j = ⟨g, 0 + j, none⟩ := add_off _ g 0 j rfl
theorem OwnS.strs {w : World} {B : Nat} {v : Value} {ss : List ByteArray} (h : OwnS w B v ss) (hz : ∀ s ∈ ss, lenok s.size) : TxtsAt w v ss := by
  obtain ⟨a, c, rfl, h1, h2, h3⟩ := rows_form h
  refine ⟨a, c, rfl, h1, h2, h3, fun i s hs => ⟨hz s (List.mem_of_getElem? hs), ?_⟩⟩
  rcases h.2 with ⟨e, hn⟩ | ⟨g, cap, cur, e, _⟩
  · have : ss = [] := List.length_eq_zero_iff.1 hn
    subst this; simp at hs
  · cases e
    have := World.ownsRow.cells h (g := g) rfl i (.string s) (by simp [hs])
    rw [add0] at this
    exact ⟨g, 0, rfl, this⟩
theorem wpList_appendS {ops : Array Oper} {rest : List Oper} {o : Oper} {a : Act} {w : World} {Q : Exit → Act → World → Prop} (hgd : o.guard = none) (s x : Operand)
    (ho : o.op = .call { callee := .builtin .append, args := #[s, x], argTypes := #[34, 34] }) (B : Nat) (v : Value) (ss : List ByteArray) (hs : a.eval s = v) (hown : OwnS w B v ss)
    (sv : Value) (l2 : List ByteArray) (hx : a.eval x = sv) (hsv : TxtsAt w sv l2) (hlen : ss.length + l2.length ≤ 1099511627776) (hB : B ≤ w.heap.size)
    (h : ∀ v' w', OwnS w' B v' (ss ++ l2) → w.grownBy w' v.ownBlock → Next w v.ownBlock v'.ownBlock → wpList Tryz.prog ops Q rest (a.put o.dst v') w') : wpList Tryz.prog ops Q (o :: rest) a w := by
  obtain ⟨i0, hi, hz0, hz1, hz2⟩ := str_parts
  obtain ⟨sa, cap, rfl, _, _, hnil, hc⟩ := hsv
  cases sa with
  | none =>
    have h0 : l2 = [] := by
      cases l2 with
      | nil => rfl
      | cons y r => obtain ⟨_, b, off, e, _⟩ := hc 0 y rfl; cases e
    subst h0
    have := hnil rfl
    subst this
    refine wpList_append_own_none hgd s x 34 ho B 9 i0 1 Tryz.underlying34 hi v ss.length _ hs hown hx ?_
    exact h v w (by rw [List.append_nil]; exact hown) ⟨rfl, rfl, rfl, Nat.le_refl _, fun _ _ _ => rfl⟩ (Next.refl _ _)
  | some ad =>
    have hnews : ∀ j u, (l2.map Value.string)[j]? = some u → w.cell? (ad.add j) = some u := by
      intro j u hj
      rw [List.getElem?_map] at hj
      cases hq : l2[j]? with
      | none => rw [hq] at hj; cases hj
      | some s =>
        rw [hq] at hj
        obtain ⟨_, b, off, e, hcell⟩ := hc j s hq
        cases e
        simp at hj
        subst hj
        rw [add_off _ b off j rfl]
        exact hcell
    obtain ⟨v', w', hr, h2, h3, h4⟩ := append_next (P := Tryz.prog) w B 34 o.type 9 i0 (.string ⟨#[]⟩) 1 16 Tryz.underlying34 hi hz0 hz1 hz2 rfl (by decide) v ss.length _ hown ad l2.length cap (l2.map Value.string) (by simp) hnews (by intro u hu; obtain ⟨s, _, rfl⟩ := List.mem_map.1 hu; rfl) (by unfold maxLen; omega) (by omega) hB
    refine wpList_plain hgd fun _ hK => Lib.wp_append_run w s x 34 34 ho v _ hs hx v' w' hr (hK _ _ (h v' w' ?_ h3 h4))
    unfold OwnS
    rw [List.length_append, List.map_append]
    exact h2
theorem grew_row {w wr w' : World} {e : TypeId} {size : Nat} {v : Value} {n : Nat} {xs : List Value} (h : wr.ownsRow w.heap.size e size v n xs) (hg : Grew w wr) (hgr : wr.grownBy w' v.ownBlock) : Grew w w' := by
  have hgr2 : Moved (fun k => some k = v.ownBlock) wr w' := Moved.of_grown hgr
  refine ⟨hgr2.os.trans hg.os, hgr2.tape.trans hg.tape, hgr2.output.trans hg.output, Nat.le_trans hg.size hgr2.size, fun k hk => ?_⟩
  refine (hgr2.block k (Nat.lt_of_lt_of_le hk hg.size) fun e => ?_).trans (hg.block k hk)
  rcases h.2 with ⟨rfl, hn⟩ | ⟨g, cap, cur, rfl, hb, _, _⟩
  · cases e
  · have : k = g := by injection e
    omega
theorem txts_new (w : World) (s : ByteArray) (hs : lenok s.size) : TxtsAt (w.alloc (.cells #[.string s] 9)) (.slice (some ⟨w.heap.size, 0, none⟩) 1 1) [s] := by
  have h := heap_alloc_new w (.cells #[.string s] 9)
  refine ⟨_, 1, rfl, by simp, by unfold lenok; omega, (fun h => by cases h), fun i y hy => ?_⟩
  have hi : i = 0 := by have := (List.getElem?_eq_some_iff.1 hy).1; simp at this; omega
  subst hi
  simp at hy
  subst hy
  exact ⟨hs, _, _, rfl, row_cellT h 0 _ rfl⟩
/-! ### strings -/
def shortS (s : ByteArray) (m : Nat) : ByteArray := s.extract 0 (min s.size m)
theorem shortS_size (s : ByteArray) (m : Nat) : (shortS s m).size = min s.size m := by simp [shortS]
theorem min_nat (a b : Nat) : min (a : Int) (b : Int) = ((min a b : Nat) : Int) := by omega
theorem short_any' (w : World) (s : ByteArray) (m : Nat) (hs : lenok s.size) (hm : m ≤ 1000) :
    Calls Tryz.prog 14 #[.string s, .int .i64 m] w fun r w' => r = .returned (.string (shortS s m)) ∧ w = w' := by
  unfold lenok at hs
  have h1 : min (s.size : Int) (m : Int) = ((min s.size m : Nat) : Int) := min_nat _ _
  obtain ⟨k, hk⟩ : ∃ k : Nat, min s.size m = k := ⟨_, rfl⟩
  rw [hk] at h1
  have hks : k ≤ s.size := by omega
  have hki : (k : Int) ≤ s.size := by omega
  have HK := Lib.hid hk
  clear hk
  go_enter Tryz.func14, Tryz.ntmps14
  go_wp2
  · go_ret
    exact ⟨by rw [shortS, HK.out, show m = k by have := HK.out; omega]; rfl, rfl⟩
  · go_ret
    exact ⟨by rw [shortS, HK.out, show k = s.size by have := HK.out; omega]; simp, rfl⟩
end Go.Proofs.YtjnpcddbgfmpcaaGreat

/-
  Trees of one's own; shortening and copying lists of strings.
-/
namespace Go.Proofs.YtjnpcddbgfmpcaaGreat
open Go Go.ChangeShapes Go.WideShapes Go.ChangeAt Go.RowKit Go.Joins Go.Deep
set_option linter.unusedVariables false
set_option linter.unusedSimpArgs false
section
variable {w w' : World} {B : Nat} {v : Value} {vs : List Value} {t : Tr} {l : List Tr} {S T : Nat → Prop}
end
def textsS (l : List ByteArray) (many long : Nat) : List ByteArray := (l.take many).map (shortS · long)
theorem textsS_snoc {l : List ByteArray} {k : Nat} {s : ByteArray} (h : l[k]? = some s) {many : Nat} (hk : k < many) (long : Nat) : textsS (l.take k) many long ++ [shortS s long] = textsS (l.take (k + 1)) many long := by
  obtain ⟨hl, hs⟩ := List.getElem?_eq_some_iff.1 h
  unfold textsS
  rw [List.take_take, List.take_take, Nat.min_eq_right (by omega : k ≤ many), Nat.min_eq_right (by omega : k + 1 ≤ many), List.take_succ_eq_append_getElem hl, List.map_append, hs]
  rfl
theorem textsS_all (l : List ByteArray) (many long : Nat) : textsS (l.take many) many long = textsS l many long := by simp [textsS, List.take_take]
theorem textsS_length (l : List ByteArray) (many long : Nat) : (textsS l many long).length = min many l.length := by simp [textsS]
set_option maxRecDepth 100000 in
set_option maxHeartbeats 1000000 in
theorem texts_any (many long : Nat) (v : Value) (l : List ByteArray) (w : World) (h : TxtsAt w v l) (hm : many ≤ 1000) (hlg : long ≤ 1000) :
    Calls Tryz.prog 47 #[v, .int .i64 many, .int .i64 long] w fun r w' => ∃ v', r = .returned v' ∧ OwnS w' w.heap.size v' (textsS l many long) ∧ Grew w w' := by
  obtain ⟨ad, c, rfl, hlc, hcm, _, hcell⟩ := h
  have HC := Lib.hid hcell
  have hl : l.length ≤ 9223372036854775807 := by unfold lenok at hcm; omega
  clear hcell hcm
  go_enter Tryz.func47, Tryz.ntmps47
  go_wp2_with fail
  go_loopw [7, 8] (fun v i wr => ∃ k : Nat, k ≤ l.length ∧ k ≤ many ∧ i = .int .i64 k ∧ Hid (OwnS wr w.heap.size v (textsS (l.take k) many long) ∧ Grew w wr)) (fun _ i _ => l.length - (intOf i).toNat)
  case atStart => exact ⟨0, Nat.zero_le _, by omega, rfl, by
    show _ ∧ _
    exact ⟨by simpa [textsS] using OwnS.nil _ _, Grew.refl _⟩⟩
  case round =>
    obtain ⟨k, hk, hk2, rfl, HW⟩ := hrel
    by_cases hlt : k < l.length
    · by_cases h3 : k < many
      · obtain ⟨x, hx⟩ : ∃ x, l[k]? = some x := ⟨_, List.getElem?_eq_getElem hlt⟩
        have HSN := Lib.hid (textsS_snoc hx h3 long)
        obtain ⟨hz, b, off, rfl, c0⟩ := HC.out k x hx
        have HZ := Lib.hid hz
        clear hx hz
        have d0 := HW.out.2.cell c0
        clear c0
        have h3i : (k : Int) < many := by omega
        go_wp2_with fail
        refine (short_any' wr x long HZ.out hlg).mono ?_
        rintro r w2 ⟨rfl, rfl⟩
        have HO := Lib.hid HW.out.1
        have HG := Lib.hid HW.out.2
        obtain ⟨va, vc, rfl, _, _, _⟩ := rows_form HO.out
        have HLN : Hid ((textsS (l.take k) many long).length ≤ 1000) := by show _ ≤ _; rw [textsS_length]; omega
        have hzs : Hid (lenok (shortS x long).size) := by show lenok _; have := HZ.out; unfold lenok at *; rw [shortS_size]; omega
        generalize textsS (l.take k) many long = L at *
        generalize shortS x long = X at *
        clear HW
        have HO2 : Hid (∀ o, OwnS (wr.alloc o) w.heap.size (.slice va L.length vc) L) := fun o => HO.out.grew ((Grew.refl _).alloc o)
        go_wp2_with (at_builtin; refine wpList_appendS rfl _ _ rfl w.heap.size (.slice va L.length vc) L rfl (HO2.out _) _ [X] rfl (txts_new _ _ hzs.out) (by have := HLN.out; simp; omega) (Nat.le_trans HG.out.size (by simp)) ?_; intro v' w3 hown hgr hqq; obtain ⟨va2, vc2, rfl, _, _, _⟩ := rows_form hown; have HG3 := Lib.hid (And.intro hown (grew_row (HO2.out _) (HG.out.alloc _) hgr)); clear hown hgr hqq)
        go_roundw
        case rel =>
          refine ⟨k + 1, by omega, by omega, by go_num, ?_⟩
          show _ ∧ _
          rw [← HSN.out]
          have hh := HG3.out
          rw [List.length_append] at hh
          exact hh
        case measure => simp [intOf]; omega
      · have ek : k = many := by omega
        subst ek
        have hw := HW.out
        have HE : Hid (OwnS wr w.heap.size u7 (textsS l k long) ∧ Grew w wr) := by
          show _ ∧ _
          rw [textsS_all] at hw
          exact hw
        clear hw HW
        go_wp2
        go_ret
        exact ⟨_, rfl, HE.out⟩
    · have ek : k = l.length := by omega
      subst ek
      have hw := HW.out
      have HE : Hid (OwnS wr w.heap.size u7 (textsS l many long) ∧ Grew w wr) := by
        show _ ∧ _
        rw [List.take_length] at hw
        exact hw
      clear hw HW
      go_wp2
      all_goals
        go_ret
        exact ⟨_, rfl, HE.out⟩
end Go.Proofs.YtjnpcddbgfmpcaaGreat

/-
  Trees: shortening a tree, plain; children collected into a row of one's own.
-/
namespace Go.Proofs.YtjnpcddbgfmpcaaGreat
open Go Go.ChangeShapes Go.WideShapes Go.ChangeAt Go.RowKit Go.Joins Go.Deep
set_option linter.unusedVariables false
set_option linter.unusedSimpArgs false
end Go.Proofs.YtjnpcddbgfmpcaaGreat

/-
  Trees: the reference's copy. Conditions: the node lies in memory; rows of at most 4096.
-/
namespace Go.Proofs.YtjnpcddbgfmpcaaGreat
open Go Go.ChangeShapes Go.WideShapes Go.ChangeAt Go.RowKit Go.Joins Go.Deep
set_option linter.unusedVariables false
set_option linter.unusedSimpArgs false
theorem Moved.fresh {S : Nat → Prop} {w0 w w' : World} (hg : Grew w0 w) (h : Moved S w w') (hS : ∀ g, S g → w0.heap.size ≤ g) : Grew w0 w' :=
  Below.trans hg (h.below hg.size hS)
end Go.Proofs.YtjnpcddbgfmpcaaGreat

/-
  Trees: the laws' shortened copy (Cut). Conditions: the node lies in memory.
-/
namespace Go.Proofs.YtjnpcddbgfmpcaaGreat
open Go Go.ChangeShapes Go.WideShapes Go.ChangeAt Go.RowKit Go.Joins Go.Deep
set_option linter.unusedVariables false
set_option linter.unusedSimpArgs false
end Go.Proofs.YtjnpcddbgfmpcaaGreat

/-
  Trees: Cut; comparing lists of strings.
-/
namespace Go.Proofs.YtjnpcddbgfmpcaaGreat
open Go Go.ChangeShapes Go.WideShapes Go.ChangeAt Go.RowKit Go.Joins Go.Deep
set_option linter.unusedVariables false
set_option linter.unusedSimpArgs false
theorem str_eq (x y : ByteArray) : (x.toList == y.toList) = decide (x = y) := by
  rw [Bool.eq_iff_iff, beq_iff_eq, decide_eq_true_eq, ByteArray.toList_eq, ByteArray.toList_eq]
  exact ⟨fun h => bytes_inj h, fun h => by rw [h]⟩
end Go.Proofs.YtjnpcddbgfmpcaaGreat

/-
  Trees: the reference's comparison. Conditions: both nodes lie in memory.
-/
namespace Go.Proofs.YtjnpcddbgfmpcaaGreat
open Go Go.ChangeShapes Go.WideShapes Go.ChangeAt Go.RowKit Go.Joins Go.Deep
set_option linter.unusedVariables false
set_option linter.unusedSimpArgs false
end Go.Proofs.YtjnpcddbgfmpcaaGreat
