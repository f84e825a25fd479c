/-
  The reference buffer's Align, Num, Text; strings as bytes.
-/
import Derived.Test.YtaoflhddcbmacaaBufMisc
namespace Go.Proofs.Ytaoflhddcbmacaa
open Go Go.ChangeShapes Go.WideShapes Go.ChangeAt Go.RowKit Go.Joins
set_option linter.unusedVariables false
set_option linter.unusedSimpArgs false

theorem one_byte (w : World) (z : Int) (b : UInt8) (h : z = b.toNat) : BytesAt (w.alloc (.cells #[.int .u8 z] 5)) (.slice (some ⟨w.heap.size, 0, none⟩) 1 1) [b] := by
  subst h
  refine ⟨_, 1, rfl, Nat.le_refl _, (fun h => by cases h), fun i c hc => ⟨_, _, rfl, ?_⟩⟩
  cases i with
  | zero =>
    simp at hc; subst hc
    rw [cell_of_row _ _ _ _ _ _ (heap_alloc_new _ _)]; rfl
  | succ i => simp at hc
theorem own_new {w w' : World} {B : Nat} {t : TypeId} {v : Value} {n : Nat} {xs : List Value} (h : w.ownsRow B t 1 v n xs) (hg : w.grownBy w' v.ownBlock) {W : World} (hW : Grew W w) (hB : W.heap.size ≤ B) : Grew W w' := by
  have h2 : Below W.heap.size W w := hW
  exact h2.grown hg hW.size (fun k hk => Nat.le_trans hB (World.ownsRow.lt h k hk).1)

theorem digB_snoc (k U : Nat) : digB k U ++ [UInt8.ofNat (U / 256 ^ k % 256)] = digB (k + 1) U := by simp [digB, List.range_succ]
/-- A slice of strings. -/
def StrsAt (w : World) (v : Value) (ss : List ByteArray) : Prop :=
  ∃ a c, v = .slice a ss.length c ∧ ∀ (i : Nat) (s : ByteArray), ss[i]? = some s → ∃ bl off, a = some ⟨bl, off, none⟩ ∧ w.cell? ⟨bl, off + i, none⟩ = some (.string s)
theorem StrsAt.grew {w w' : World} {v : Value} {x : List ByteArray} (h : StrsAt w v x) (hg : Grew w w') : StrsAt w' v x := by
  obtain ⟨a, c, h1, h4⟩ := h
  refine ⟨a, c, h1, fun i b hb => ?_⟩
  obtain ⟨bl, off, e, hc⟩ := h4 i b hb
  exact ⟨bl, off, e, hg.cell hc⟩
theorem StrsAt.form {w : World} {v : Value} {x : List ByteArray} (h : StrsAt w v x) : ∃ a c, v = .slice a x.length c ∧ (∀ (i : Nat) (s : ByteArray), x[i]? = some s → ∃ bl off, a = some ⟨bl, off, none⟩ ∧ w.cell? ⟨bl, off + i, none⟩ = some (.string s)) := h
def catS (ss : List ByteArray) : ByteArray := ss.foldl (· ++ ·) ByteArray.empty
def bytesS (ss : List ByteArray) : List UInt8 := ss.flatMap (·.data.toList)
def sizeS (ss : List ByteArray) : Nat := (ss.map (·.size)).sum
theorem catS_bytes (ss : List ByteArray) : (catS ss).data.toList = bytesS ss := by
  have : ∀ (ss : List ByteArray) (a : ByteArray), (ss.foldl (· ++ ·) a).data.toList = a.data.toList ++ bytesS ss := by
    intro ss
    induction ss with
    | nil => intro a; simp [bytesS]
    | cons s r ih => intro a; rw [List.foldl_cons, ih]; simp [bytesS]
  rw [catS, this]; rfl
theorem bytesS_length (ss : List ByteArray) : (bytesS ss).length = sizeS ss := by
  induction ss with
  | nil => rfl
  | cons s r ih =>
    have e1 : bytesS (s :: r) = s.data.toList ++ bytesS r := by simp [bytesS]
    have e2 : sizeS (s :: r) = s.size + sizeS r := by simp [sizeS]
    rw [e1, e2, List.length_append, ih]; rfl
theorem catS_size (ss : List ByteArray) : (catS ss).size = sizeS ss := by
  rw [← bytesS_length, ← catS_bytes]; rfl
theorem take_snocS (ss : List ByteArray) (k : Nat) (h : k < ss.length) : ss.take (k + 1) = ss.take k ++ [ss[k]] := by
  rw [List.take_succ_eq_append_getElem h]
theorem catS_snoc (ss : List ByteArray) (k : Nat) (h : k < ss.length) : catS (ss.take (k + 1)) = catS (ss.take k) ++ ss[k] := by
  rw [take_snocS ss k h, catS, List.foldl_append]; rfl
theorem bytesS_snoc (ss : List ByteArray) (k : Nat) (h : k < ss.length) : bytesS (ss.take (k + 1)) = bytesS (ss.take k) ++ ss[k].data.toList := by
  rw [take_snocS ss k h, bytesS, List.flatMap_append]; simp [bytesS]
theorem sizeS_snoc (ss : List ByteArray) (k : Nat) (h : k < ss.length) : sizeS (ss.take (k + 1)) = sizeS (ss.take k) + ss[k].size := by
  rw [take_snocS ss k h, sizeS, List.map_append, List.sum_append]; simp [sizeS]
theorem sizeS_take (ss : List ByteArray) (k : Nat) : sizeS (ss.take k) ≤ sizeS ss := by
  have : sizeS ss = sizeS (ss.take k) + sizeS (ss.drop k) := by
    conv => lhs; rw [← List.take_append_drop k ss]
    simp only [sizeS, List.map_append, List.sum_append]
  omega
theorem bytes_of_str (w : World) (s : ByteArray) (hs : s.size ≤ 1099511627776) :
    ∃ v w', (convert 9 39 (.string s)).run Try.prog w = .ok v w' ∧ BytesAt w' v s.data.toList ∧ Grew w w' := by
  have hr := run_bytes_of_string (P := Try.prog) w 9 39 5 s Try.underlying9 Try.underlying39 Try.underlying5
  refine ⟨_, _, hr, ?_, ((Grew.refl w).drew).alloc _⟩
  have hge := grownCap_ge w s.size 0 5
  have hsz : s.size = s.data.toList.length := rfl
  refine ⟨_, _, by rw [hsz], by rw [← hsz]; exact hge, (fun h => by cases h), fun i b hb => ⟨_, _, rfl, ?_⟩⟩
  obtain ⟨hi, he⟩ := List.getElem?_eq_some_iff.1 hb
  have hh : (w.drew.alloc (.cells (bytesRow s (grownCap w s.size 0 5)) 5 ((bytesRow s (grownCap w s.size 0 5)).size, (bytesRow s (grownCap w s.size 0 5)).size + 1))).heap[w.heap.size]? = some _ := heap_alloc_new w.drew _
  rw [cell_of_row _ w.heap.size _ _ _ _ hh, Nat.zero_add, bytesRow_at s _ i (by simpa using hi)]
  rw [← he]; rfl
end Go.Proofs.Ytaoflhddcbmacaa
