/-
  Texts of the proof, part 6 of 21.
-/
import Derived.Test.YtajpbclcfjljnaaPAE
import Derived.Outline
import Derived.Laws.IdiomStrings
import Derived.WalkSpells
import Derived.Laws.Closers25b

/-
  Small helpers: EqBytes, SpoilBytes, Short, Bring, New, the reference's New.
-/
namespace Go.Proofs.Ytajpbclcfjljnaa
open Go Go.ChangeShapes Go.WideShapes Go.ChangeAt Go.RowKit Go.Joins
set_option linter.unusedVariables false
set_option linter.unusedSimpArgs false
theorem str_of_bytes {w : World} {v : Value} {x : List UInt8} (h : BytesAt w v x) : (convert 36 9 v).run Try.prog w = .ok (.string ⟨x.toArray⟩) w := by
  obtain ⟨a, c, rfl, hc, hnil, hcell⟩ := h
  cases a with
  | none =>
    have h0 := hnil rfl
    subst h0
    have : x = [] := List.length_eq_zero_iff.1 (by omega)
    subst this
    exact run_convert_bytes_nil w 36 5 Try.underlying36 Try.underlying5 0 0 9 Try.underlying9
  | some ad =>
    refine run_convert_bytes_back w 36 9 5 ad c x Try.underlying36 Try.underlying5 Try.underlying9 fun j hj => ?_
    obtain ⟨b, off, e, hcc⟩ := hcell j x[j] (List.getElem?_eq_getElem hj)
    cases e
    have : (⟨b, off, none⟩ : Addr).add j = ⟨b, off + j, none⟩ := by
      unfold Addr.add
      split
      · rename_i h; subst h; rfl
      · rfl
    rw [this]; exact hcc
theorem eqBytes_any {w : World} (v u : Value) (x y : List UInt8) (hv : BytesAt w v x) (hu : BytesAt w u y) :
    Calls Try.prog 14 #[v, u] w fun r w' => r = .returned (.bool (decide (x = y))) ∧ w' = w := by
  have h1 := str_of_bytes hv
  have h2 := str_of_bytes hu
  obtain ⟨a, c, rfl, hc, hnil, _⟩ := hv
  obtain ⟨a2, c2, rfl, hc2, hnil2, _⟩ := hu
  clear hc hc2 hnil hnil2
  go_enter Try.func14, Try.ntmps14
  go_wp2
  go_ret
  refine ⟨ret_bool ?_, rfl⟩
  show (_ == _) = _
  rw [Bool.eq_iff_iff]
  simp
theorem bring_eq (i n : Int) (h : 0 < n) : (i.tmod n < 0 → i.tmod n + n = i % n) ∧ (¬ i.tmod n < 0 → i.tmod n = i % n) ∧ -n < i.tmod n ∧ i.tmod n < n := by
  have h1 := Int.emod_nonneg i (show n ≠ 0 by omega)
  have h2 := Int.emod_lt_of_pos i h
  rw [Int.tmod_eq_emod]
  by_cases hc : 0 ≤ i ∨ n ∣ i
  · rw [if_pos hc]
    refine ⟨fun h => ?_, fun _ => ?_, ?_, ?_⟩ <;> simp only [Int.ofNat_zero, Int.sub_zero] at * <;> omega
  · rw [if_neg hc]
    have h3 : (n.natAbs : Int) = n := by omega
    have h4 : i % n ≠ 0 := fun h => hc (.inr (Int.dvd_of_emod_eq_zero h))
    rw [h3]
    refine ⟨fun h => ?_, fun _ => ?_, ?_, ?_⟩ <;> omega
theorem bring_any (i n : Int) (w : World) (hn : 0 < n) (hn2 : n ≤ 1048577) : Calls Try.prog 7 #[.int .i64 i, .int .i64 n] w fun r w' => r = .returned (.int .i64 (i % n)) ∧ w' = w := by
  obtain ⟨b1, b2, b3, b4⟩ := bring_eq i n hn
  have B1 := Lib.hid b1
  have B2 := Lib.hid b2
  clear b1 b2
  go_enter Try.func7, Try.ntmps7
  go_wp2
  · go_ret
    refine ⟨ret_int ?_, rfl⟩
    exact B1.out (by assumption)
  · go_ret
    exact ⟨ret_int (B2.out (by assumption)), rfl⟩
def roomOf (most : Int) : Int := min (max most 0) 1048576
theorem new_any (most : Int) (w : World) : Calls Try.prog 17 #[.int .i64 most] w fun r w' => r = .returned (bptr w.heap.size) ∧ BufAt w.heap.size w' w.heap.size none [] (roomOf most) 0 ∧ Grew w w' ∧ w.heap.size < w'.heap.size := by
  have H : Hid (∀ m : Int, m = roomOf most → BufAt w.heap.size (w.alloc (.cells #[.bool true, .slice none 0 0, .int .i64 m, .int .i64 0] 75)) w.heap.size none [] (roomOf most) 0 ∧ Grew w (w.alloc (.cells #[.bool true, .slice none 0 0, .int .i64 m, .int .i64 0] 75)) ∧ w.heap.size < (w.alloc (.cells #[.bool true, .slice none 0 0, .int .i64 m, .int .i64 0] 75)).heap.size) := by
    rintro m rfl
    exact ⟨⟨Nat.le_refl _, _, heap_alloc_new _ _, World.ownsRow_nil _ _ _ _, rfl, by simp⟩, (Grew.refl w).alloc _, by simp⟩
  have HR : Hid ((most < 0 → 0 = roomOf most) ∧ (0 ≤ most → most ≤ 1048576 → most = roomOf most) ∧ (1048576 ≤ most → 1048576 = roomOf most)) := by
    unfold roomOf; exact ⟨by omega, by omega, by omega⟩
  generalize roomOf most = rm at *
  go_enter Try.func17, Try.ntmps17
  go_wp2
  all_goals
    go_ret
    refine ⟨rfl, H.out _ ?_⟩
    first | exact HR.out.1 (by omega) | exact HR.out.2.1 (by omega) (by omega) | exact HR.out.2.2 (by omega)
end Go.Proofs.Ytajpbclcfjljnaa

/-
  The reference buffer's Align, Num, Text; strings as bytes.
-/
namespace Go.Proofs.Ytajpbclcfjljnaa
open Go Go.ChangeShapes Go.WideShapes Go.ChangeAt Go.RowKit Go.Joins
set_option linter.unusedVariables false
set_option linter.unusedSimpArgs false
theorem one_byte (w : World) (z : Int) (b : UInt8) (h : z = b.toNat) : BytesAt (w.alloc (.cells #[.int .u8 z] 5)) (.slice (some ⟨w.heap.size, 0, none⟩) 1 1) [b] := by
  subst h
  refine ⟨_, 1, rfl, Nat.le_refl _, (fun h => by cases h), fun i c hc => ⟨_, _, rfl, ?_⟩⟩
  cases i with
  | zero =>
    simp at hc; subst hc
    rw [cell_of_row _ _ _ _ _ _ (heap_alloc_new _ _)]; rfl
  | succ i => simp at hc
theorem own_new {w w' : World} {B : Nat} {t : TypeId} {v : Value} {n : Nat} {xs : List Value} (h : w.ownsRow B t 1 v n xs) (hg : w.grownBy w' v.ownBlock) {W : World} (hW : Grew W w) (hB : W.heap.size ≤ B) : Grew W w' := by
  have h2 : Below W.heap.size W w := hW
  exact h2.grown hg hW.size (fun k hk => Nat.le_trans hB (World.ownsRow.lt h k hk).1)
theorem digB_snoc (k U : Nat) : digB k U ++ [UInt8.ofNat (U / 256 ^ k % 256)] = digB (k + 1) U := by simp [digB, List.range_succ]
def StrsAt (w : World) (v : Value) (ss : List ByteArray) : Prop :=
  ∃ a c, v = .slice a ss.length c ∧ ∀ (i : Nat) (s : ByteArray), ss[i]? = some s → ∃ bl off, a = some ⟨bl, off, none⟩ ∧ w.cell? ⟨bl, off + i, none⟩ = some (.string s)
theorem StrsAt.grew {w w' : World} {v : Value} {x : List ByteArray} (h : StrsAt w v x) (hg : Grew w w') : StrsAt w' v x := by
  obtain ⟨a, c, h1, h4⟩ := h
  refine ⟨a, c, h1, fun i b hb => ?_⟩
  obtain ⟨bl, off, e, hc⟩ := h4 i b hb
  exact ⟨bl, off, e, hg.cell hc⟩
theorem StrsAt.form {w : World} {v : Value} {x : List ByteArray} (h : StrsAt w v x) : ∃ a c, v = .slice a x.length c ∧ (∀ (i : Nat) (s : ByteArray), x[i]? = some s → ∃ bl off, a = some ⟨bl, off, none⟩ ∧ w.cell? ⟨bl, off + i, none⟩ = some (.string s)) := h
def catS (ss : List ByteArray) : ByteArray := ss.foldl (· ++ ·) ByteArray.empty
def bytesS (ss : List ByteArray) : List UInt8 := ss.flatMap (·.data.toList)
def sizeS (ss : List ByteArray) : Nat := (ss.map (·.size)).sum
theorem catS_bytes (ss : List ByteArray) : (catS ss).data.toList = bytesS ss := by
  have : ∀ (ss : List ByteArray) (a : ByteArray), (ss.foldl (· ++ ·) a).data.toList = a.data.toList ++ bytesS ss := by
    intro ss
    induction ss with
    | nil => intro a; simp [bytesS]
    | cons s r ih => intro a; rw [List.foldl_cons, ih]; simp [bytesS]
  rw [catS, this]; rfl
theorem bytesS_length (ss : List ByteArray) : (bytesS ss).length = sizeS ss := by
  induction ss with
  | nil => rfl
  | cons s r ih =>
    have e1 : bytesS (s :: r) = s.data.toList ++ bytesS r := by simp [bytesS]
    have e2 : sizeS (s :: r) = s.size + sizeS r := by simp [sizeS]
    rw [e1, e2, List.length_append, ih]; rfl
theorem catS_size (ss : List ByteArray) : (catS ss).size = sizeS ss := by
  rw [← bytesS_length, ← catS_bytes]; rfl
theorem take_snocS (ss : List ByteArray) (k : Nat) (h : k < ss.length) : ss.take (k + 1) = ss.take k ++ [ss[k]] := by
  rw [List.take_succ_eq_append_getElem h]
theorem catS_snoc (ss : List ByteArray) (k : Nat) (h : k < ss.length) : catS (ss.take (k + 1)) = catS (ss.take k) ++ ss[k] := by
  rw [take_snocS ss k h, catS, List.foldl_append]; rfl
theorem bytesS_snoc (ss : List ByteArray) (k : Nat) (h : k < ss.length) : bytesS (ss.take (k + 1)) = bytesS (ss.take k) ++ ss[k].data.toList := by
  rw [take_snocS ss k h, bytesS, List.flatMap_append]; simp [bytesS]
theorem sizeS_snoc (ss : List ByteArray) (k : Nat) (h : k < ss.length) : sizeS (ss.take (k + 1)) = sizeS (ss.take k) + ss[k].size := by
  rw [take_snocS ss k h, sizeS, List.map_append, List.sum_append]; simp [sizeS]
theorem sizeS_take (ss : List ByteArray) (k : Nat) : sizeS (ss.take k) ≤ sizeS ss := by
  have : sizeS ss = sizeS (ss.take k) + sizeS (ss.drop k) := by
    conv => lhs; rw [← List.take_append_drop k ss]
    simp only [sizeS, List.map_append, List.sum_append]
  omega
theorem bytes_of_str (w : World) (s : ByteArray) (hs : s.size ≤ 1099511627776) :
    ∃ v w', (convert 9 36 (.string s)).run Try.prog w = .ok v w' ∧ BytesAt w' v s.data.toList ∧ Grew w w' := by
  have hr := run_bytes_of_string (P := Try.prog) w 9 36 5 s Try.underlying9 Try.underlying36 Try.underlying5
  refine ⟨_, _, hr, ?_, ((Grew.refl w).drew).alloc _⟩
  have hge := grownCap_ge w s.size 0 5
  have hsz : s.size = s.data.toList.length := rfl
  refine ⟨_, _, by rw [hsz], by rw [← hsz]; exact hge, (fun h => by cases h), fun i b hb => ⟨_, _, rfl, ?_⟩⟩
  obtain ⟨hi, he⟩ := List.getElem?_eq_some_iff.1 hb
  have hh : (w.drew.alloc (.cells (bytesRow s (grownCap w s.size 0 5)) 5 ((bytesRow s (grownCap w s.size 0 5)).size, (bytesRow s (grownCap w s.size 0 5)).size + 1))).heap[w.heap.size]? = some _ := heap_alloc_new w.drew _
  rw [cell_of_row _ w.heap.size _ _ _ _ hh, Nat.zero_add, bytesRow_at s _ i (by simpa using hi)]
  rw [← he]; rfl
end Go.Proofs.Ytajpbclcfjljnaa
