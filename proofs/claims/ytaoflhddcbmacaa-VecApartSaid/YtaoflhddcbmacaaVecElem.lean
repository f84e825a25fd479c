/-
  Vectors: an element behind any bytes; a full row takes an append; worlds in which one struct is stored.
-/
import Derived.Test.YtaoflhddcbmacaaVecPair
import Derived.Test.YtaoflhddcbmacaaRegionT
import Derived.ArgAppend
namespace Go.Proofs.Ytaoflhddcbmacaa
open Go Go.ChangeShapes Go.WideShapes Go.ChangeAt Go.RowKit Go.Joins
open Go.Proofs.Ytaoflhddcbmacaa.Ft (V3 vV okV ValsAt inlineB legalB packF codeF typedF allF allAt fitsL fitsV fitsF headF belowW leastOf)
set_option linter.unusedVariables false
set_option linter.unusedSimpArgs false

theorem load_elem {b : List UInt8} {L : List V3} {x p : Int} (hb : b.length ≤ 1048576) (hl : L.length ≤ 1048576) (h : ∀ v ∈ L, Near b.length v) (hx : allF L (0, 0, 0) b.length 1 = x) (hp : (b.length : Int) + padN b x + x = p) (k : Nat) (v : V3) (hk : L[k]? = some v) :
    isW x = true ∧ loadF (b ++ (pieces x true true b L).flatten) (p + k * x) x = (encN x (p + k * x) v, 0) := by
  obtain ⟨_, x0, hw, hall⟩ := allF_near (n := b.length) (ahead := 1) (.inr rfl) (by omega) (by omega) hl h
  rw [hx] at hw hall
  have hwp := isW_pos hw
  have hfit : fitsL L b.length 1 x = true := by
    have h := hall
    unfold allAt at h
    simp only [Bool.and_eq_true] at h
    exact h.2
  have hpe := pad_eq hw b
  have hfe : fitE x p L := fitE_of hw L 1 p (by rw [← hp, hpe]; omega) (by omega) hfit
  have hpieces : (pieces x true true b L).flatten = (zeros (padN b x) ++ digB x.toNat L.length) ++ (encL x p L).flatten ++ L.map (tagB x) := by
    unfold pieces
    simp only [if_true, hp]
    simp [flatten_tags]
  obtain ⟨A, C, hA, hAk⟩ := encL_at hw L p k v hk
  have hb2 := fitE_get L p k v hfe hk
  refine ⟨hw, loadF_at (A := b ++ (zeros (padN b x) ++ digB x.toNat L.length) ++ A) (C := C ++ L.map (tagB x)) hw ?_ ?_ hb2.1 hb2.2⟩
  · rw [hpieces, hA]; simp only [List.append_assoc]
  · rw [List.length_append, List.length_append, List.length_append, length_zeros, length_digB]; omega
theorem near_mono {a b : Int} {v : V3} (h : Near a v) (hab : a ≤ b) : Near b v := ⟨h.1, h.2.1, h.2.2.1, fun e => Int.le_trans (h.2.2.2 e) hab⟩
theorem near_vec {N x p : Int} (hx : isW x = true) (h0 : 0 ≤ p) (h1 : p ≤ N) (h2 : N ≤ 1048576) : Near N (10, x, p) := by
  refine ⟨?_, ⟨h0, by show p ≤ _; omega⟩, fun e => ?_, fun _ => h1⟩
  · unfold legalE
    rw [if_pos (show legalB 10 = true by decide), if_neg (show ¬ inlineB 10 = true by decide), if_pos hx]
  · exact absurd (show inlineB 10 = true from e) (by decide)
theorem own_base3 {w : World} {B B' : Nat} {v : Value} {l : List V3} (h : OwnVals w B v l) (hb : B' ≤ B) : OwnVals w B' v l := by
  refine ⟨h.1, ?_⟩
  rcases h.2 with h2 | ⟨g, cap, cur, e, hg, r⟩
  · exact .inl h2
  · exact .inr ⟨g, cap, cur, e, Nat.le_trans hb hg, r⟩
abbrev rowV (V : V3) : Obj := .cells #[.int .i64 V.1, .int .i64 V.2.1, .int .u64 V.2.2] 28 (0, 0)
theorem own_single {w : World} {g B : Nat} {V : V3} (hB : B ≤ g) (hg : w.heap[g]? = some (rowV V)) : OwnVals w B (.slice (some ⟨g, 0, none⟩) 1 1) [V] :=
  ⟨rfl, .inr ⟨g, 1, _, rfl, hB, hg, Nat.le_refl _, by unfold maxLen; omega, rfl, rfl⟩⟩
theorem append_full {w : World} {g B : Nat} {V : V3} (hB : B ≤ g) (hBs : B ≤ w.heap.size) (hg : w.heap[g]? = some (rowV V)) {sv : Value} {l2 : List V3} (hown : OwnVals w B sv l2) (hl : l2.length ≤ 1048575) (ty : TypeId) :
    ∃ v' w', (Builtin.append_ #[24, 24] ty #[.slice (some ⟨g, 0, none⟩) 1 1, sv]).run Try.prog w = .ok v' w' ∧ OwnVals w' B v' (V :: l2) ∧ Grew w w' := by
  obtain ⟨i0, hi, hz0, hz1, hz2⟩ := val_parts
  have h1 := own_single hB hg
  have hv := hown.vals
  rcases hown.2 with ⟨rfl, hn⟩ | ⟨g2, cap, cur, rfl, hb2, hg2, hnc, _⟩
  · have h0 : l2 = [] := List.length_eq_zero_iff.1 hn
    subst h0
    exact ⟨_, w, run_append_owned_none (P := Try.prog) (w := w) B 24 ty 28 i0 3 Try.underlying24 hi _ 1 _ h1, h1, Grew.refl w⟩
  · by_cases h0 : l2 = []
    · subst h0
      have hrun := run_append_room_cells (P := Try.prog) w 24 ty 28 i0 Try.underlying24 hi g 0 1 1 ⟨g2, 0, none⟩ 0 cap [] (by simp) (by simp) (by simp) (by omega) (by simp) (by simp)
      exact ⟨_, w, hrun, h1, Grew.refl w⟩
    · have hpos : 0 < l2.length := List.length_pos_iff.2 h0
      have hcell : ∀ j u, (cellsV V)[j]? = some u → w.cell? ((⟨g, 0, none⟩ : Addr).add j) = some u := fun j u hj => by
        have hc := World.ownsRow.cells h1 rfl
        exact hc j u (by simpa [valCells] using hj)
      obtain ⟨v', w', hr, h2, h3⟩ := run_append_arg_grows (P := Try.prog) w 24 ty 28 i0 (.agg #[.int .i64 0, .int .i64 0, .int .u64 0]) 3 24 Try.underlying24 hi hz0 hz1 hz2 rfl (by decide) ⟨g, 0, none⟩ 1 1 (cellsV V) rfl hcell ⟨g2, 0, none⟩ l2.length cap (valCells l2) (length_valCells l2) (vals_cells hv) (by omega) (by unfold maxLen; omega) (by omega)
      refine ⟨v', w', hr, own_base3 (B := w.heap.size) ?_ hBs, ⟨h3.os, h3.tape, h3.output, h3.size, fun k hk => h3.block k hk (by simp)⟩⟩
      unfold OwnVals
      rw [show (V :: l2).length = 1 + l2.length by simp; omega, show valCells (V :: l2) = cellsV V ++ valCells l2 from rfl]
      exact h2
theorem wp_append_full {o : Oper} {a : Act} {K : Act → World → Prop} {Q : Exit → Act → World → Prop} (w : World) (s x : Operand) (ho : o.op = .call { callee := .builtin .append, args := #[s, x], argTypes := #[24, 24] })
    (g B : Nat) (V : V3) (sv : Value) (l2 : List V3) (hs : a.eval s = .slice (some ⟨g, 0, none⟩) 1 1) (hx : a.eval x = sv) (hB : B ≤ g) (hBs : B ≤ w.heap.size) (hg : w.heap[g]? = some (rowV V)) (hown : OwnVals w B sv l2) (hl : l2.length ≤ 1048575)
    (h : ∀ v' w', OwnVals w' B v' (V :: l2) → Grew w w' → K (a.put o.dst v') w') : o.wp Try.prog a w K Q := by
  obtain ⟨v', w', hr, h2, h3⟩ := append_full hB hBs hg hown hl o.type
  exact Lib.wp_append_run w s x 24 24 ho _ _ hs hx v' w' hr (h v' w' h2 h3)
theorem heap_store3 {w : World} {g : Nat} {a b c : Value} {t : TypeId} (h : w.heap[g]? = some (.cells #[a, b, c] t (0, 0))) (a' b' c' : Value) :
    (((w.setCell ⟨g, 0, none⟩ a').setCell ⟨g, 1, none⟩ b').setCell ⟨g, 2, none⟩ c').heap[g]? = some (.cells #[a', b', c'] t (0, 0)) := by
  have h1 := heap_setCell_same w g 0 _ _ a' h
  have h2 := heap_setCell_same _ g 1 _ _ b' h1
  have h3 := heap_setCell_same _ g 2 _ _ c' h2
  simpa using h3
end Go.Proofs.Ytaoflhddcbmacaa
