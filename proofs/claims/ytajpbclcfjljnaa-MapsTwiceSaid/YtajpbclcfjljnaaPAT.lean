/-
  Texts of the proof, part 20 of 21.
-/
import Derived.Test.YtajpbclcfjljnaaPAS
import Derived.Test.YtajpbclcfjljnaaPAA
import Derived.ArgAppend
import Derived.Test.YtajpbclcfjljnaaPAR

/-
  Vectors: an element behind any bytes; a full row takes an append; worlds in which one struct is stored.
-/
namespace Go.Proofs.Ytajpbclcfjljnaa
open Go Go.ChangeShapes Go.WideShapes Go.ChangeAt Go.RowKit Go.Joins
open Go.Proofs.Ytajpbclcfjljnaa.Ft (V3 vV okV ValsAt inlineB legalB packF codeF typedF allF allAt fitsL fitsV fitsF headF belowW)
set_option linter.unusedVariables false
set_option linter.unusedSimpArgs false
theorem load_elem {b : List UInt8} {L : List V3} {x p : Int} (hb : b.length ≤ 1048576) (hl : L.length ≤ 1048576) (h : ∀ v ∈ L, Near b.length v) (hx : allF L (0, 0, 0) b.length 1 = x) (hp : (b.length : Int) + padN b x + x = p) (k : Nat) (v : V3) (hk : L[k]? = some v) :
    isW x = true ∧ loadF (b ++ (pieces x true true b L).flatten) (p + k * x) x = (encN x (p + k * x) v, 0) := by
  obtain ⟨_, x0, hw, hall⟩ := allF_near (n := b.length) (ahead := 1) (.inr rfl) (by omega) (by omega) hl h
  rw [hx] at hw hall
  have hwp := isW_pos hw
  have hfit : fitsL L b.length 1 x = true := by
    have h := hall
    unfold allAt at h
    simp only [Bool.and_eq_true] at h
    exact h.2
  have hpe := pad_eq hw b
  have hfe : fitE x p L := fitE_of hw L 1 p (by rw [← hp, hpe]; omega) (by omega) hfit
  have hpieces : (pieces x true true b L).flatten = (zeros (padN b x) ++ digB x.toNat L.length) ++ (encL x p L).flatten ++ L.map (tagB x) := by
    unfold pieces
    simp only [if_true, hp]
    simp [flatten_tags]
  obtain ⟨A, C, hA, hAk⟩ := encL_at hw L p k v hk
  have hb2 := fitE_get L p k v hfe hk
  refine ⟨hw, loadF_at (A := b ++ (zeros (padN b x) ++ digB x.toNat L.length) ++ A) (C := C ++ L.map (tagB x)) hw ?_ ?_ hb2.1 hb2.2⟩
  · rw [hpieces, hA]; simp only [List.append_assoc]
  · rw [List.length_append, List.length_append, List.length_append, length_zeros, length_digB]; omega
theorem near_mono {a b : Int} {v : V3} (h : Near a v) (hab : a ≤ b) : Near b v := ⟨h.1, h.2.1, h.2.2.1, fun e => Int.le_trans (h.2.2.2 e) hab⟩
theorem near_vec {N x p : Int} (hx : isW x = true) (h0 : 0 ≤ p) (h1 : p ≤ N) (h2 : N ≤ 1048576) : Near N (10, x, p) := by
  refine ⟨?_, ⟨h0, by show p ≤ _; omega⟩, fun e => ?_, fun _ => h1⟩
  · unfold legalE
    rw [if_pos (show legalB 10 = true by decide), if_neg (show ¬ inlineB 10 = true by decide), if_pos hx]
  · exact absurd (show inlineB 10 = true from e) (by decide)
theorem own_base3 {w : World} {B B' : Nat} {v : Value} {l : List V3} (h : OwnVals w B v l) (hb : B' ≤ B) : OwnVals w B' v l := by
  refine ⟨h.1, ?_⟩
  rcases h.2 with h2 | ⟨g, cap, cur, e, hg, r⟩
  · exact .inl h2
  · exact .inr ⟨g, cap, cur, e, Nat.le_trans hb hg, r⟩
abbrev rowV (V : V3) : Obj := .cells #[.int .i64 V.1, .int .i64 V.2.1, .int .u64 V.2.2] 30 (0, 0)
theorem own_single {w : World} {g B : Nat} {V : V3} (hB : B ≤ g) (hg : w.heap[g]? = some (rowV V)) : OwnVals w B (.slice (some ⟨g, 0, none⟩) 1 1) [V] :=
  ⟨rfl, .inr ⟨g, 1, _, rfl, hB, hg, Nat.le_refl _, by unfold maxLen; omega, rfl, rfl⟩⟩
theorem append_full {w : World} {g B : Nat} {V : V3} (hB : B ≤ g) (hBs : B ≤ w.heap.size) (hg : w.heap[g]? = some (rowV V)) {sv : Value} {l2 : List V3} (hown : OwnVals w B sv l2) (hl : l2.length ≤ 1048575) (ty : TypeId) :
    ∃ v' w', (Builtin.append_ #[24, 24] ty #[.slice (some ⟨g, 0, none⟩) 1 1, sv]).run Try.prog w = .ok v' w' ∧ OwnVals w' B v' (V :: l2) ∧ Grew w w' := by
  obtain ⟨i0, hi, hz0, hz1, hz2⟩ := val_parts
  have h1 := own_single hB hg
  have hv := hown.vals
  rcases hown.2 with ⟨rfl, hn⟩ | ⟨g2, cap, cur, rfl, hb2, hg2, hnc, _⟩
  · have h0 : l2 = [] := List.length_eq_zero_iff.1 hn
    subst h0
    exact ⟨_, w, run_append_owned_none (P := Try.prog) (w := w) B 24 ty 30 i0 3 Try.underlying24 hi _ 1 _ h1, h1, Grew.refl w⟩
  · by_cases h0 : l2 = []
    · subst h0
      have hrun := run_append_room_cells (P := Try.prog) w 24 ty 30 i0 Try.underlying24 hi g 0 1 1 ⟨g2, 0, none⟩ 0 cap [] (by simp) (by simp) (by simp) (by omega) (by simp) (by simp)
      exact ⟨_, w, hrun, h1, Grew.refl w⟩
    · have hpos : 0 < l2.length := List.length_pos_iff.2 h0
      have hcell : ∀ j u, (cellsV V)[j]? = some u → w.cell? ((⟨g, 0, none⟩ : Addr).add j) = some u := fun j u hj => by
        have hc := World.ownsRow.cells h1 rfl
        exact hc j u (by simpa [valCells] using hj)
      obtain ⟨v', w', hr, h2, h3⟩ := run_append_arg_grows (P := Try.prog) w 24 ty 30 i0 (.agg #[.int .i64 0, .int .i64 0, .int .u64 0]) 3 24 Try.underlying24 hi hz0 hz1 hz2 rfl (by decide) ⟨g, 0, none⟩ 1 1 (cellsV V) rfl hcell ⟨g2, 0, none⟩ l2.length cap (valCells l2) (length_valCells l2) (vals_cells hv) (by omega) (by unfold maxLen; omega) (by omega)
      refine ⟨v', w', hr, own_base3 (B := w.heap.size) ?_ hBs, ⟨h3.os, h3.tape, h3.output, h3.size, fun k hk => h3.block k hk (by simp)⟩⟩
      unfold OwnVals
      rw [show (V :: l2).length = 1 + l2.length by simp; omega, show valCells (V :: l2) = cellsV V ++ valCells l2 from rfl]
      exact h2
theorem wp_append_full {o : Oper} {a : Act} {K : Act → World → Prop} {Q : Exit → Act → World → Prop} (w : World) (s x : Operand) (ho : o.op = .call { callee := .builtin .append, args := #[s, x], argTypes := #[24, 24] })
    (g B : Nat) (V : V3) (sv : Value) (l2 : List V3) (hs : a.eval s = .slice (some ⟨g, 0, none⟩) 1 1) (hx : a.eval x = sv) (hB : B ≤ g) (hBs : B ≤ w.heap.size) (hg : w.heap[g]? = some (rowV V)) (hown : OwnVals w B sv l2) (hl : l2.length ≤ 1048575)
    (h : ∀ v' w', OwnVals w' B v' (V :: l2) → Grew w w' → K (a.put o.dst v') w') : o.wp Try.prog a w K Q := by
  obtain ⟨v', w', hr, h2, h3⟩ := append_full hB hBs hg hown hl o.type
  exact Lib.wp_append_run w s x 24 24 ho _ _ hs hx v' w' hr (h v' w' h2 h3)
theorem heap_store3 {w : World} {g : Nat} {a b c : Value} {t : TypeId} (h : w.heap[g]? = some (.cells #[a, b, c] t (0, 0))) (a' b' c' : Value) :
    (((w.setCell ⟨g, 0, none⟩ a').setCell ⟨g, 1, none⟩ b').setCell ⟨g, 2, none⟩ c').heap[g]? = some (.cells #[a', b', c'] t (0, 0)) := by
  have h1 := heap_setCell_same w g 0 _ _ a' h
  have h2 := heap_setCell_same _ g 1 _ _ b' h1
  have h3 := heap_setCell_same _ g 2 _ _ c' h2
  simpa using h3
end Go.Proofs.Ytajpbclcfjljnaa

/-
  Package maps: element, tag, check.
-/
namespace Go.Proofs.Ytajpbclcfjljnaa
open Go Go.ChangeShapes Go.WideShapes Go.ChangeAt Go.RowKit Go.Joins
open Go.Proofs.Ytajpbclcfjljnaa.Ft (V3 vV okV ValsAt inlineB legalB packF codeF typedF allF)
set_option linter.unusedVariables false
set_option linter.unusedSimpArgs false
theorem pack_byte (t x : Int) : (packF t x).1 = ((UInt8.ofNat (packF t x).1.toNat).toNat : Int) := by
  have := pack_range t x
  rw [UInt8.toNat_ofNat']; omega
theorem elemS_in {most x : Int} {s : St} {ty wd vn : Int} (hi : inlineB ty = true) : elemS most x s (ty, wd, vn) = numS most x (lowF vn x) s := by simp [elemS, hi]
set_option maxRecDepth 100000 in
set_option maxHeartbeats 2000000 in
theorem element_any {B : Nat} {w : World} {p : Nat} {o : Option Nat} {most : Int} (s : St) (x : Int) (v : V3) (hx : isW x = true) (h : BufAt B w p o s.1 most s.2) (hB : B ≤ w.heap.size) (hl : (s.1.length : Int) ≤ most) (hm1 : most ≤ 1048576) (hok : okV v) :
    Calls Try.prog 30 #[.agg #[bptr p, .int .i64 x], vV v] w fun r w' => r = .returned (.tuple #[]) ∧ TurnB B w w' p o most (elemS most x s v) := by
  obtain ⟨ty, wd, vn⟩ := v
  obtain ⟨n0, n1⟩ := hok
  simp only at n0 n1
  show Calls Try.prog 30 #[.agg #[bptr p, .int .i64 x], .agg #[.int .i64 ty, .int .i64 wd, .int .u64 vn]] w _
  have HB := Lib.hid h
  have HX := Lib.hid hx
  have hs0 : s.1.length ≤ 1048576 := by omega
  have hwl : IntKind.u64.wrap (s.1.length : Int) = (s.1.length : Int) := by simp [IntKind.wrap, IntKind.bits, IntKind.signed]; omega
  clear h hx
  go_enter Try.func30, Try.ntmps30
  go_wp2_with fail
  have hg0 : Grew w ((w.alloc (.cells #[bptr p, .int .i64 x] 63)).alloc (.cells #[.int .i64 ty, .int .i64 wd, .int .u64 vn] 30)) := ((Grew.refl w).alloc _).alloc _
  have hr0 : ((w.alloc (.cells #[bptr p, .int .i64 x] 63)).alloc (.cells #[.int .i64 ty, .int .i64 wd, .int .u64 vn] 30)).heap[w.heap.size]? = some (.cells #[bptr p, .int .i64 x] 63) := ((Grew.refl _).alloc _).heap (heap_alloc_new w _)
  have hr1 : ((w.alloc (.cells #[bptr p, .int .i64 x] 63)).alloc (.cells #[.int .i64 ty, .int .i64 wd, .int .u64 vn] 30)).heap[w.heap.size + 1]? = some (.cells #[.int .i64 ty, .int .i64 wd, .int .u64 vn] 30) := by
    have h := heap_alloc_new (w.alloc (.cells #[bptr p, .int .i64 x] 63)) (.cells #[.int .i64 ty, .int .i64 wd, .int .u64 vn] 30)
    simpa using h
  generalize ((w.alloc (.cells #[bptr p, .int .i64 x] 63)).alloc (.cells #[.int .i64 ty, .int .i64 wd, .int .u64 vn] 30)) = w1 at *
  have c0 := row_cell hr0 0 _ rfl
  have c1 := row_cell hr0 1 _ rfl
  have d0 := row_cell hr1 0 _ rfl
  have d2 := row_cell hr1 2 _ rfl
  have HG1 := Lib.hid hg0
  have HB1 := Lib.hid (HB.out.grew hg0)
  clear hr0 hr1 hg0
  refine wp_region_tables Grew [[], [0], [1], [2], [], [4], [3, 5], [6]] [[(8, 2), (9, 3), (10, 4), (11, 5), (12, 6), (4, 7)], [(6, 0), (9, 3), (10, 4), (11, 5), (12, 6), (4, 7)], [(6, 0), (7, 1), (10, 4), (11, 5), (12, 6), (4, 7)], [(6, 0), (7, 1), (8, 2), (10, 4), (11, 5), (4, 7)], [(6, 0), (7, 1), (8, 2), (9, 3), (12, 6), (4, 7)], [(6, 0), (7, 1), (8, 2), (9, 3), (10, 4), (4, 7)], [(6, 0), (7, 1), (8, 2), (9, 3), (10, 4), (11, 5)], [(6, 0), (7, 1), (8, 2), (9, 3), (10, 4), (11, 5), (12, 6)]] [(6, 0), (7, 1), (8, 2), (9, 3), (10, 4), (11, 5), (12, 6), (4, 7)]
    [Is (.pointer (some ⟨w.heap.size, 0, none⟩)), Is (bptr p), Is (.int .i64 (s.1.length : Int)), Is (.int .u64 (s.1.length : Int)), Is (.pointer (some ⟨w.heap.size + 1, 2, none⟩)), Is (.int .u64 vn), Is (.int .u64 (IntKind.u64.wrap ((s.1.length : Int) - vn))), Is (.int .u64 (IntKind.u64.wrap ((s.1.length : Int) - vn)))]
    (by kernel_rfl) Grew.trans Grew.refl (Grew.refl _).drew (by kernel_rfl) ⟨is_st, is_st, is_st, is_st, is_st, is_st, is_st, is_st, trivial⟩ ⟨?_, ?_, ?_, ?_, ?_, ?_, ?_, ?_, trivial⟩ rfl ?_
  · intro y w2 hG hD K hK
    simp only [fillL, Act.put, List.setIfInBounds_toArray, List.set_cons_zero, List.set_cons_succ, List.getD_cons_zero, List.getD_cons_succ, Is] at hK ⊢
    refine ite_yes (by rfl) ?_
    go_simp
    exact hK _ _ _ rfl (Grew.refl _) rfl
  · intro y w2 hG hD K hK
    simp only [depsH, List.getD_cons_zero, List.getD_cons_succ, Is, and_true] at hD
    have h0 := hD
    clear hD
    have dc0 := hG.cell c0
    have dd2 := hG.cell d2
    simp only [fillL, Act.put, List.setIfInBounds_toArray, List.set_cons_zero, List.set_cons_succ, List.getD_cons_zero, List.getD_cons_succ, Is] at hK ⊢
    rw [h0] at hK ⊢
    clear h0
    refine ite_yes (by rfl) ?_
    go_simp
    exact hK _ _ _ rfl (Grew.refl _) rfl
  · intro y w2 hG hD K hK
    simp only [depsH, List.getD_cons_zero, List.getD_cons_succ, Is, and_true] at hD
    have h1 := hD
    clear hD
    simp only [fillL, Act.put, List.setIfInBounds_toArray, List.set_cons_zero, List.set_cons_succ, List.getD_cons_zero, List.getD_cons_succ, Is] at hK ⊢
    rw [h1] at hK ⊢
    clear h1
    refine ite_yes (by rfl) ?_
    go_simp
    refine (len_any (HB1.out.grew hG)).mono ?_
    rintro r w3 ⟨rfl, rfl⟩
    exact hK _ _ _ rfl (Grew.refl _) rfl
  · intro y w2 hG hD K hK
    simp only [depsH, List.getD_cons_zero, List.getD_cons_succ, Is, and_true] at hD
    have h2 := hD
    clear hD
    simp only [fillL, Act.put, List.setIfInBounds_toArray, List.set_cons_zero, List.set_cons_succ, List.getD_cons_zero, List.getD_cons_succ, Is] at hK ⊢
    rw [h2] at hK ⊢
    clear h2
    refine ite_yes (by rfl) ?_
    go_simp
    exact hK _ _ _ rfl (Grew.refl _) rfl
  · intro y w2 hG hD K hK
    simp only [fillL, Act.put, List.setIfInBounds_toArray, List.set_cons_zero, List.set_cons_succ, List.getD_cons_zero, List.getD_cons_succ, Is] at hK ⊢
    refine ite_yes (by rfl) ?_
    go_simp
    exact hK _ _ _ rfl (Grew.refl _) rfl
  · intro y w2 hG hD K hK
    simp only [depsH, List.getD_cons_zero, List.getD_cons_succ, Is, and_true] at hD
    have h4 := hD
    clear hD
    have dc0 := hG.cell c0
    have dd2 := hG.cell d2
    simp only [fillL, Act.put, List.setIfInBounds_toArray, List.set_cons_zero, List.set_cons_succ, List.getD_cons_zero, List.getD_cons_succ, Is] at hK ⊢
    rw [h4] at hK ⊢
    clear h4
    refine ite_yes (by rfl) ?_
    go_simp
    exact hK _ _ _ rfl (Grew.refl _) rfl
  · intro y w2 hG hD K hK
    simp only [depsH, List.getD_cons_zero, List.getD_cons_succ, Is, and_true] at hD
    have h3 := hD.1
    have h5 := hD.2
    clear hD
    simp only [fillL, Act.put, List.setIfInBounds_toArray, List.set_cons_zero, List.set_cons_succ, List.getD_cons_zero, List.getD_cons_succ, Is] at hK ⊢
    rw [h3, h5] at hK ⊢
    clear h3 h5
    refine ite_yes (by rfl) ?_
    go_simp
    exact hK _ _ _ rfl (Grew.refl _) rfl
  · intro y w2 hG hD K hK
    simp only [depsH, List.getD_cons_zero, List.getD_cons_succ, Is, and_true] at hD
    have h6 := hD
    clear hD
    simp only [fillL, Act.put, List.setIfInBounds_toArray, List.set_cons_zero, List.set_cons_succ, List.getD_cons_zero, List.getD_cons_succ, Is] at hK ⊢
    rw [h6] at hK ⊢
    clear h6
    refine ite_yes (by rfl) ?_
    go_simp
    exact hK _ _ _ rfl (Grew.refl _) rfl
  · intro y w2 hG hF
    simp only [factsH, Is, and_true, Nat.reduceAdd] at hF
    have h0 := hF.1
    have h1 := hF.2.1
    have h2 := hF.2.2.1
    have h3 := hF.2.2.2.1
    have h4 := hF.2.2.2.2.1
    have h5 := hF.2.2.2.2.2.1
    have h6 := hF.2.2.2.2.2.2.1
    have h7 := hF.2.2.2.2.2.2.2
    clear hF
    simp only [fillL, Act.put, List.setIfInBounds_toArray, List.set_cons_zero, List.set_cons_succ, List.getD_cons_zero, List.getD_cons_succ, Is]
    rw [h0, h1, h2, h3, h4, h5, h6, h7]
    clear h0 h1 h2 h3 h4 h5 h6 h7
    replace c0 := hG.cell c0
    replace c1 := hG.cell c1
    replace d0 := hG.cell d0
    replace d2 := hG.cell d2
    have HG2 := Lib.hid (HG1.out.trans hG)
    clear hG
    go_wp2_with fail
    refine (Ft.inline_any ty _).mono ?_
    rintro r w3 ⟨rfl, hg⟩
    replace c0 := hg.cell c0
    replace c1 := hg.cell c1
    replace d2 := hg.cell d2
    have HG3 := Lib.hid (HG2.out.trans hg)
    clear hg d0
    by_cases hi : inlineB ty = true
    · rw [hi]
      rcases isW_cases HX.out with rfl | rfl | rfl | rfl
      · have hlw : IntKind.u64.wrap (vn * 72057594037927936) / 72057594037927936 = lowF vn 1 := by unfold lowF; simp [IntKind.wrap, IntKind.bits, IntKind.signed]; omega
        have HEL : Hid (elemS most 1 s (ty, wd, vn) = numS most 1 (lowF vn 1) s) := by show _ = _; rw [elemS_in hi]
        have hlr := lowF_ok (n := vn) (x := 1) n0 n1
        go_wp2_with fail
        refine (num_any s 1 (lowF vn 1) (HB.out.grew HG3.out) (Nat.le_trans hB HG3.out.size) hl hm1 hlr.1 hlr.2).mono ?_
        rintro r w5 ⟨rfl, ht⟩
        have HT := Lib.hid (TurnB.after HG3.out ht)
        clear ht
        go_wp2
        go_end0
        exact ⟨rfl, by rw [HEL.out]; exact HT.out⟩
      · have hlw : IntKind.u64.wrap (vn * 281474976710656) / 281474976710656 = lowF vn 2 := by unfold lowF; simp [IntKind.wrap, IntKind.bits, IntKind.signed]; omega
        have HEL : Hid (elemS most 2 s (ty, wd, vn) = numS most 2 (lowF vn 2) s) := by show _ = _; rw [elemS_in hi]
        have hlr := lowF_ok (n := vn) (x := 2) n0 n1
        go_wp2_with fail
        refine (num_any s 2 (lowF vn 2) (HB.out.grew HG3.out) (Nat.le_trans hB HG3.out.size) hl hm1 hlr.1 hlr.2).mono ?_
        rintro r w5 ⟨rfl, ht⟩
        have HT := Lib.hid (TurnB.after HG3.out ht)
        clear ht
        go_wp2
        go_end0
        exact ⟨rfl, by rw [HEL.out]; exact HT.out⟩
      · have hlw : IntKind.u64.wrap (vn * 4294967296) / 4294967296 = lowF vn 4 := by unfold lowF; simp [IntKind.wrap, IntKind.bits, IntKind.signed]; omega
        have HEL : Hid (elemS most 4 s (ty, wd, vn) = numS most 4 (lowF vn 4) s) := by show _ = _; rw [elemS_in hi]
        have hlr := lowF_ok (n := vn) (x := 4) n0 n1
        go_wp2_with fail
        refine (num_any s 4 (lowF vn 4) (HB.out.grew HG3.out) (Nat.le_trans hB HG3.out.size) hl hm1 hlr.1 hlr.2).mono ?_
        rintro r w5 ⟨rfl, ht⟩
        have HT := Lib.hid (TurnB.after HG3.out ht)
        clear ht
        go_wp2
        go_end0
        exact ⟨rfl, by rw [HEL.out]; exact HT.out⟩
      · have hlw : lowF vn 8 = vn := by unfold lowF; rw [Int.emod_eq_of_lt n0 (by simp; omega)]
        have HEL : Hid (elemS most 8 s (ty, wd, vn) = numS most 8 (vn) s) := by show _ = _; rw [elemS_in hi]; rw [hlw]
        have hlr := lowF_ok (n := vn) (x := 8) n0 n1
        go_wp2_with fail
        refine (num_any s 8 (vn) (HB.out.grew HG3.out) (Nat.le_trans hB HG3.out.size) hl hm1 n0 n1).mono ?_
        rintro r w5 ⟨rfl, ht⟩
        have HT := Lib.hid (TurnB.after HG3.out ht)
        clear ht
        go_wp2
        go_end0
        exact ⟨rfl, by rw [HEL.out]; exact HT.out⟩
    · have hi' : inlineB ty = false := by simpa using hi
      rw [hi']
      go_wp2_with fail
      refine (num_any s x (IntKind.u64.wrap ((s.1.length : Int) - vn)) (HB.out.grew HG3.out) (Nat.le_trans hB HG3.out.size) hl hm1 (wrapU_lo _) (wrapU_hi _)).mono ?_
      rintro r w5 ⟨rfl, ht⟩
      have HEL : Hid (elemS most x s (ty, wd, vn) = numS most x (IntKind.u64.wrap ((s.1.length : Int) - vn)) s) := by show _ = _; simp [elemS, hi']
      have HT := Lib.hid (TurnB.after HG3.out ht)
      clear ht
      go_wp2
      go_end0
      exact ⟨rfl, by rw [HEL.out]; exact HT.out⟩
set_option maxRecDepth 100000 in
set_option maxHeartbeats 2000000 in
theorem mtag_any {B : Nat} {w : World} {p : Nat} {o : Option Nat} {most : Int} (s : St) (x : Int) (v : V3) (h : BufAt B w p o s.1 most s.2) (hB : B ≤ w.heap.size) (hl : (s.1.length : Int) ≤ most) (hm1 : most ≤ 1048576) :
    Calls Try.prog 32 #[.agg #[bptr p, .int .i64 x], vV v] w fun r w' => r = .returned (.tuple #[]) ∧ TurnB B w w' p o most (tagS most x s v) := by
  obtain ⟨ty, wd, vn⟩ := v
  show Calls Try.prog 32 #[.agg #[bptr p, .int .i64 x], .agg #[.int .i64 ty, .int .i64 wd, .int .u64 vn]] w _
  have HB := Lib.hid h
  clear h
  go_enter Try.func32, Try.ntmps32
  go_wp2_with fail
  have hg0 : Grew w ((w.alloc (.cells #[bptr p, .int .i64 x] 63)).alloc (.cells #[.int .i64 ty, .int .i64 wd, .int .u64 vn] 30)) := ((Grew.refl w).alloc _).alloc _
  have hr0 : ((w.alloc (.cells #[bptr p, .int .i64 x] 63)).alloc (.cells #[.int .i64 ty, .int .i64 wd, .int .u64 vn] 30)).heap[w.heap.size]? = some (.cells #[bptr p, .int .i64 x] 63) := ((Grew.refl _).alloc _).heap (heap_alloc_new w _)
  have hr1 : ((w.alloc (.cells #[bptr p, .int .i64 x] 63)).alloc (.cells #[.int .i64 ty, .int .i64 wd, .int .u64 vn] 30)).heap[w.heap.size + 1]? = some (.cells #[.int .i64 ty, .int .i64 wd, .int .u64 vn] 30) := by
    have h := heap_alloc_new (w.alloc (.cells #[bptr p, .int .i64 x] 63)) (.cells #[.int .i64 ty, .int .i64 wd, .int .u64 vn] 30)
    simpa using h
  generalize ((w.alloc (.cells #[bptr p, .int .i64 x] 63)).alloc (.cells #[.int .i64 ty, .int .i64 wd, .int .u64 vn] 30)) = w1 at *
  refine (Ft.inline_any ty _).mono ?_
  rintro r w3 ⟨rfl, hg⟩
  have c0 := row_cell (hg.heap hr0) 0 _ rfl
  have c1 := row_cell (hg.heap hr0) 1 _ rfl
  have d0 := row_cell (hg.heap hr1) 0 _ rfl
  have d1 := row_cell (hg.heap hr1) 1 _ rfl
  have HG3 := Lib.hid (hg0.trans hg)
  clear hg hr0 hr1 hg0
  obtain ⟨y, hy⟩ : ∃ y, (if inlineB ty then x else wd) = y := ⟨_, rfl⟩
  have HTB : Hid (tagB x (ty, wd, vn) = UInt8.ofNat (packF ty y).1.toNat) := by show _ = _; rw [← hy]; rfl
  have HY := Lib.hid hy
  clear hy
  cases hi : inlineB ty
  · have hy := HY.out
    rw [hi] at hy
    simp at hy
    subst hy
    clear HY
    go_wp2_with fail
    refine (Ft.pack_any ty wd _).mono ?_
    rintro r w2 ⟨rfl, hg⟩
    have HG2 := Lib.hid (HG3.out.trans hg)
    replace c0 := hg.cell c0
    have hpk := pack_range ty wd
    have hb8 := pack_byte ty wd
    generalize packF ty wd = pk at *
    clear hg c1 d0 d1 hpk
    have hst := str_of_bytes (one_byte w2 pk.1 (UInt8.ofNat pk.1.toNat) hb8)
    clear hb8
    go_wp2_with fail
    refine (textNew1 s ⟨#[UInt8.ofNat pk.1.toNat]⟩ _ (by simp) (HB.out.grew (HG2.out.alloc _)) (Nat.le_trans hB (HG2.out.alloc _).size) hl hm1 (show (1 : Nat) + 0 ≤ 1073741824 by decide)).mono ?_
    rintro r w5 ⟨rfl, ht⟩
    have HT := Lib.hid (TurnB.after (HG2.out.alloc _) ht)
    clear ht hst
    go_wp2
    go_end0
    refine ⟨rfl, ?_⟩
    show TurnB _ _ _ _ _ _ (putS most (bytesS [⟨#[tagB x (ty, wd, vn)]⟩]) s)
    rw [HTB.out]
    exact HT.out
  · have hy := HY.out
    rw [hi] at hy
    simp at hy
    subst hy
    clear HY
    go_wp2_with fail
    refine (Ft.pack_any ty x _).mono ?_
    rintro r w2 ⟨rfl, hg⟩
    have HG2 := Lib.hid (HG3.out.trans hg)
    replace c0 := hg.cell c0
    have hpk := pack_range ty x
    have hb8 := pack_byte ty x
    generalize packF ty x = pk at *
    clear hg c1 d0 d1 hpk
    have hst := str_of_bytes (one_byte w2 pk.1 (UInt8.ofNat pk.1.toNat) hb8)
    clear hb8
    go_wp2_with fail
    refine (textNew1 s ⟨#[UInt8.ofNat pk.1.toNat]⟩ _ (by simp) (HB.out.grew (HG2.out.alloc _)) (Nat.le_trans hB (HG2.out.alloc _).size) hl hm1 (show (1 : Nat) + 0 ≤ 1073741824 by decide)).mono ?_
    rintro r w5 ⟨rfl, ht⟩
    have HT := Lib.hid (TurnB.after (HG2.out.alloc _) ht)
    clear ht hst
    go_wp2
    go_end0
    refine ⟨rfl, ?_⟩
    show TurnB _ _ _ _ _ _ (putS most (bytesS [⟨#[tagB x (ty, wd, vn)]⟩]) s)
    rw [HTB.out]
    exact HT.out
end Go.Proofs.Ytajpbclcfjljnaa

/-
  Package maps: check.
-/
namespace Go.Proofs.Ytajpbclcfjljnaa
open Go Go.ChangeShapes Go.WideShapes Go.ChangeAt Go.RowKit Go.Joins
open Go.Proofs.Ytajpbclcfjljnaa.Ft (V3 vV okV ValsAt inlineB legalB packF codeF typedF allF)
set_option linter.unusedVariables false
set_option linter.unusedSimpArgs false
def checkE (k : V3) (l : List V3) : Int := if k.1 = 14 then (if isW k.2.1 then eachL legalE 0 l else 2) else 60
theorem inl_14 : inlineB 14 = false := by decide
theorem legal_no {v : V3} (h : legalB v.1 = false) : legalE v = 20 := by unfold legalE; rw [if_neg (by rw [h]; decide)]
theorem legal_inl {v : V3} (h : legalB v.1 = true) (hi : inlineB v.1 = true) : legalE v = 0 := by unfold legalE; rw [if_pos h, if_pos hi]
theorem legal_far {v : V3} (h : legalB v.1 = true) (hi : inlineB v.1 = false) : legalE v = if isW v.2.1 then 0 else 2 := by unfold legalE; rw [if_pos h, if_neg (by rw [hi]; decide)]
set_option maxRecDepth 100000 in
set_option maxHeartbeats 4000000 in
theorem check_any (k : V3) (lv : Value) (l : List V3) (w : World) (hv : ValsAt w lv l) (hnil : ∀ c, lv = .slice none 0 c → c = 0) (hlen : l.length ≤ 1048575) :
    Calls Try.prog 26 #[vV k, lv] w fun r w' => r = .returned (.int .i64 (checkE k l)) ∧ Grew w w' := by
  have HV := Lib.hid hv
  have HN := Lib.hid hnil
  obtain ⟨k0, k1, k2⟩ := k
  obtain ⟨la, lc, rfl, hcell⟩ := hv
  clear hcell hnil
  show Calls Try.prog 26 #[.agg #[.int .i64 k0, .int .i64 k1, .int .u64 k2], .slice la l.length lc] w _
  by_cases hk : k0 = 14
  · subst hk
    have HE : Hid (checkE (14, k1, k2) l = if isW k1 then eachL legalE 0 l else 2) := by show _ = _; unfold checkE; rw [if_pos rfl]
    go_enter Try.func26, Try.ntmps26
    have hG2 : Grew w ((w.alloc (.cells #[.int .i64 14, .int .i64 k1, .int .u64 k2] 30)).alloc (.cells #[.int .i64 14, .int .i64 k1, .int .u64 k2] 30)) := ((Grew.refl w).alloc _).alloc _
    have hR2 := heap_alloc_new (w.alloc (.cells #[.int .i64 14, .int .i64 k1, .int .u64 k2] 30)) (.cells #[.int .i64 14, .int .i64 k1, .int .u64 k2] 30)
    have hR3 : ((w.alloc (.cells #[.int .i64 14, .int .i64 k1, .int .u64 k2] 30)).alloc (.cells #[.int .i64 14, .int .i64 k1, .int .u64 k2] 30)).heap[w.heap.size + 1]? = some (rowV (14, k1, k2)) := by simpa using hR2
    have HO2 : Hid (OwnVals ((w.alloc (.cells #[.int .i64 14, .int .i64 k1, .int .u64 k2] 30)).alloc (.cells #[.int .i64 14, .int .i64 k1, .int .u64 k2] 30)) w.heap.size (.slice (some ⟨w.heap.size + 1, 0, none⟩) 1 1) [(14, k1, k2)]) := own_single (Nat.le_succ _) hR3
    have HG2 := Lib.hid hG2
    have HV2 := Lib.hid (HV.out.grew hG2)
    clear hG2 hR2 hR3
    go_wp2_with (at_builtin; refine wpList_appendV rfl _ _ rfl w.heap.size (.slice (some ⟨w.heap.size + 1, 0, none⟩) 1 1) [(14, k1, k2)] rfl HO2.out _ l rfl HV2.out HN.out (by simp; omega) (by simp; omega) ?_; intro v' w3 hown hgr hqq; obtain ⟨va2, vc2, rfl, _⟩ := own_form hown; have HG3 := Lib.hid (grew_own HO2.out HG2.out hgr); have HW3 := Lib.hid hown.vals; clear hown hgr hqq)
    go_loopw [17] (fun i wr => ∃ j : Nat, j ≤ l.length + 1 ∧ i = .int .i64 j ∧ Hid (Grew w wr ∧ Grew w3 wr ∧ (1 ≤ j → isW k1 = true) ∧ eachL legalE 0 (l.take (j - 1)) = 0)) (fun i _ => l.length + 1 - (intOf i).toNat)
    case atStart => exact ⟨0, Nat.zero_le _, rfl, by
      show _ ∧ _ ∧ _ ∧ _
      exact ⟨HG3.out, Grew.refl _, fun h => by omega, rfl⟩⟩
    case round =>
      obtain ⟨j, hj, rfl, HW⟩ := hrel
      have HGW := Lib.hid HW.out.1
      have HG3W := Lib.hid HW.out.2.1
      have HKW := Lib.hid HW.out.2.2.1
      have HEA := Lib.hid HW.out.2.2.2
      clear HW
      by_cases hlt : j < l.length + 1
      · obtain ⟨va', vc', ev, hc⟩ := HW3.out
        cases ev
        have hji : (j : Int) < l.length + 1 := by omega
        by_cases hj0 : j = 0
        · have hjb : (j : Int) ≤ 0 := by omega
          have hdb : decide (0 < (j : Int)) = false := by simp; omega
          obtain ⟨b, off, rfl, d0, d1, d2⟩ := hc j (14, k1, k2) (by rw [hj0]; rfl)
          replace d0 := HG3W.out.cell d0
          replace d1 := HG3W.out.cell d1
          replace d2 := HG3W.out.cell d2
          simp only at d0 d1 d2
          clear hc
          have HJ := Lib.hid hj0
          clear hj0
          by_cases hw : isW k1 = true
          · have HWK := Lib.hid hw
            go_wp2_with fail
            refine (code_yes k1 _ hw).mono ?_
            rintro r w4 ⟨⟨c, rfl⟩, rfl⟩
            clear hw
            go_wp2_with fail
            refine (Ft.inline_any 14 _).mono ?_
            rw [inl_14]
            rintro r w4 ⟨rfl, hg⟩
            have HGG := Lib.hid (((Grew.refl _).alloc _).trans hg)
            clear hg
            go_wp2
            go_roundw
            case rel =>
              refine ⟨j + 1, by omega, by go_num, ?_⟩
              show _ ∧ _ ∧ _ ∧ _
              exact ⟨HGW.out.trans HGG.out, HG3W.out.trans HGG.out, fun _ => HWK.out, by have := HJ.out; subst this; simpa using HEA.out⟩
            case measure => simp [intOf]; omega
          · have hw' : isW k1 = false := by simpa using hw
            go_wp2_with fail
            refine (code_no k1 _ hw').mono ?_
            rintro r w4 ⟨⟨c, rfl⟩, rfl⟩
            go_wp2_with fail
            refine (Ft.inline_any 14 _).mono ?_
            rw [inl_14]
            rintro r w4 ⟨rfl, hg⟩
            have HGG := Lib.hid (((Grew.refl _).alloc _).trans hg)
            clear hg
            go_wp2
            go_ret
            exact ⟨by rw [HE.out]; rw [if_neg hw]; rfl, HGW.out.trans HGG.out⟩
        · obtain ⟨q, rfl⟩ : ∃ q, j = q + 1 := ⟨j - 1, by omega⟩
          have hq : q < l.length := by omega
          have hjb : 0 < ((q + 1 : Nat) : Int) := by omega
          obtain ⟨u, hu⟩ : ∃ u, l[q]? = some u := ⟨_, List.getElem?_eq_getElem hq⟩
          obtain ⟨b, off, rfl, d0, d1, d2⟩ := hc (q + 1) u (by simpa using hu)
          replace d0 := HG3W.out.cell d0
          replace d1 := HG3W.out.cell d1
          replace d2 := HG3W.out.cell d2
          have HSN : Hid (eachL legalE 0 (l.take (q + 1)) = legalE u) := by
            have h := eachL_snoc legalE 0 l q hq (by simpa using HEA.out)
            rw [show l[q] = u from (List.getElem?_eq_some_iff.1 hu).2] at h
            exact h
          have HBD : Hid (legalE u ≠ 0 → eachL legalE 0 l = legalE u) := by
            show _ → _
            intro h
            rw [eachL_drop legalE 0 l (q + 1) (by rw [HSN.out]; exact h)]
            exact HSN.out
          obtain ⟨ty, wd, vn⟩ := u
          simp only at d0 d1 d2
          clear hc hu
          generalize hjj : q + 1 = j at *
          have hjl : j ≤ l.length + 1 := by omega
          have HJJ := Lib.hid hjj
          clear hjj hj0
          have HWK := Lib.hid (HKW.out (by have := HJJ.out; omega))
          go_wp2_with fail
          have hcell0 : True := trivial
          by_cases hw : isW wd = true
          · refine (code_yes wd _ hw).mono ?_
            rintro r w4 ⟨⟨c, rfl⟩, rfl⟩
            go_wp2_with fail
            refine (Ft.legal_any ty _).mono ?_
            cases hlb : legalB ty
            · rintro r w5 ⟨rfl, hg5⟩
              have HGG := Lib.hid (((Grew.refl _).alloc _).trans hg5)
              have hle := legal_no (v := (ty, wd, vn)) hlb
              have HLE := Lib.hid hle
              clear hg5 hle
              go_wp2
              go_ret
              exact ⟨by rw [HE.out, if_pos HWK.out, HBD.out (by rw [HLE.out]; decide), HLE.out]; rfl, HGW.out.trans HGG.out⟩
            · rintro r w5 ⟨rfl, hg5⟩
              have ct : w5.cell? ⟨wr.heap.size, 0, none⟩ = some (.int .i64 ty) := hg5.cell (by go_simp)
              have HG5 := Lib.hid (((Grew.refl _).alloc _).trans hg5)
              clear hg5
              go_wp2_with fail
              refine (Ft.inline_any ty _).mono ?_
              cases hi : inlineB ty
              · rintro r w6 ⟨rfl, hg6⟩
                have HGG := Lib.hid (HG5.out.trans hg6)
                have hle := legal_far (v := (ty, wd, vn)) hlb hi
                rw [if_pos hw] at hle
                have HLE := Lib.hid hle
                clear hg6 hle ct
                go_wp2
                go_roundw
                case rel =>
                  refine ⟨j + 1, by omega, by go_num, ?_⟩
                  show _ ∧ _ ∧ _ ∧ _
                  exact ⟨HGW.out.trans HGG.out, HG3W.out.trans HGG.out, fun _ => HWK.out, by rw [Nat.add_sub_cancel]; first | (rw [HSN.out]; exact HLE.out) | (rw [HJJ.out, HSN.out]; exact HLE.out)⟩
                case measure => simp [intOf]; omega
              · rintro r w6 ⟨rfl, hg6⟩
                have HGG := Lib.hid (HG5.out.trans hg6)
                have HLE := Lib.hid (legal_inl (v := (ty, wd, vn)) hlb hi)
                clear hg6 ct
                go_wp2
                go_roundw
                case rel =>
                  refine ⟨j + 1, by omega, by go_num, ?_⟩
                  show _ ∧ _ ∧ _ ∧ _
                  exact ⟨HGW.out.trans HGG.out, HG3W.out.trans HGG.out, fun _ => HWK.out, by rw [Nat.add_sub_cancel]; first | (rw [HSN.out]; exact HLE.out) | (rw [HJJ.out, HSN.out]; exact HLE.out)⟩
                case measure => simp [intOf]; omega
          · have hw' : isW wd = false := by simpa using hw
            refine (code_no wd _ hw').mono ?_
            rintro r w4 ⟨⟨c, rfl⟩, rfl⟩
            go_wp2_with fail
            refine (Ft.legal_any ty _).mono ?_
            cases hlb : legalB ty
            · rintro r w5 ⟨rfl, hg5⟩
              have HGG := Lib.hid (((Grew.refl _).alloc _).trans hg5)
              have hle := legal_no (v := (ty, wd, vn)) hlb
              have HLE := Lib.hid hle
              clear hg5 hle
              go_wp2
              go_ret
              exact ⟨by rw [HE.out, if_pos HWK.out, HBD.out (by rw [HLE.out]; decide), HLE.out]; rfl, HGW.out.trans HGG.out⟩
            · rintro r w5 ⟨rfl, hg5⟩
              have ct : w5.cell? ⟨wr.heap.size, 0, none⟩ = some (.int .i64 ty) := hg5.cell (by go_simp)
              have HG5 := Lib.hid (((Grew.refl _).alloc _).trans hg5)
              clear hg5
              go_wp2_with fail
              refine (Ft.inline_any ty _).mono ?_
              cases hi : inlineB ty
              · rintro r w6 ⟨rfl, hg6⟩
                have HGG := Lib.hid (HG5.out.trans hg6)
                have hle := legal_far (v := (ty, wd, vn)) hlb hi
                rw [if_neg hw] at hle
                have HLE := Lib.hid hle
                clear hg6 hle ct
                go_wp2
                go_ret
                exact ⟨by rw [HE.out, if_pos HWK.out, HBD.out (by rw [HLE.out]; decide), HLE.out]; rfl, HGW.out.trans HGG.out⟩
              · rintro r w6 ⟨rfl, hg6⟩
                have HGG := Lib.hid (HG5.out.trans hg6)
                have HLE := Lib.hid (legal_inl (v := (ty, wd, vn)) hlb hi)
                clear hg6 ct
                go_wp2
                go_roundw
                case rel =>
                  refine ⟨j + 1, by omega, by go_num, ?_⟩
                  show _ ∧ _ ∧ _ ∧ _
                  exact ⟨HGW.out.trans HGG.out, HG3W.out.trans HGG.out, fun _ => HWK.out, by rw [Nat.add_sub_cancel]; first | (rw [HSN.out]; exact HLE.out) | (rw [HJJ.out, HSN.out]; exact HLE.out)⟩
                case measure => simp [intOf]; omega
      · have ej : j = l.length + 1 := by omega
        have hz : eachL legalE 0 l = 0 := by
          have := HEA.out
          rw [ej, Nat.add_sub_cancel, List.take_length] at this
          exact this
        have HZ : Hid (checkE (14, k1, k2) l = 0) := by show _ = _; rw [HE.out, if_pos (HKW.out (by omega)), hz]
        clear hz
        go_wp2
        go_ret
        exact ⟨by rw [HZ.out]; rfl, HGW.out⟩
  · have HE : Hid (checkE (k0, k1, k2) l = 60) := by show _ = _; unfold checkE; rw [if_neg hk]
    go_enter Try.func26, Try.ntmps26
    go_wp2
    go_ret
    exact ⟨by rw [HE.out]; rfl, (Grew.refl w).alloc _⟩
end Go.Proofs.Ytajpbclcfjljnaa

/-
  Package maps: Put.
-/
namespace Go.Proofs.Ytajpbclcfjljnaa
open Go Go.ChangeShapes Go.WideShapes Go.ChangeAt Go.RowKit Go.Joins
open Go.Proofs.Ytajpbclcfjljnaa.Ft (V3 vV okV ValsAt inlineB legalB packF codeF typedF allF)
set_option linter.unusedVariables false
set_option linter.unusedSimpArgs false
def headM (most x : Int) (k : V3) (n : Nat) (s : St) : St := numS most x n (numS most x k.2.1 (elemS most x (alignS most x s) k))
def putM (most : Int) (k : V3) (l : List V3) (s : St) : (V3 × Int) × St :=
  if checkE k l ≠ 0 then (((0, 0, 0), checkE k l), s) else
  let x := allF l k s.1.length 3
  if x = 0 then (((0, 0, 0), 211), s) else
  let s6 := tagsS most x l (elemsS most x l (headM most x k l.length s))
  if s6.2 ≠ 0 then (((0, 0, 0), s6.2), s6) else (((9, x, ((headM most x k l.length s).1.length : Int)), 0), s6)
theorem allF_isWk {l : List V3} {k : V3} {a b : Int} (h : allF l k a b ≠ 0) : isW (allF l k a b) = true := allF_isW h
def MidM (B : Nat) (w : World) (p : Nat) (o : Option Nat) (most : Int) (lv : Value) (l : List V3) (nR nK nX : Nat) (x : Int) (k : V3) (s : St) (o' : Option Nat) (wn : World) : Prop :=
  BufAt B wn p o' s.1 most s.2 ∧ Next w o o' ∧ Moved (Own2 p o) w wn ∧ (∀ b, (b = nR ∨ b = nK ∨ b = nX ∨ ∃ ad n c, lv = .slice (some ad) n c ∧ ad.block = b) → b < wn.heap.size ∧ ¬ Own2 p o' b) ∧ ValsAt wn lv l ∧
    wn.heap[nR]? = some (rowV (0, 0, 0)) ∧ wn.heap[nK]? = some (rowV k) ∧ wn.heap[nX]? = some (.cells #[bptr p, .int .i64 x] 63 (0, 0))
section
variable {B : Nat} {w : World} {p : Nat} {o : Option Nat} {most : Int} {lv : Value} {l : List V3} {nR nK nX : Nat} {x : Int} {k : V3} {s s' : St} {o' : Option Nat} {wn wm : World}
theorem MidM.step (h : MidM B w p o most lv l nR nK nX x k s o' wn) (ht : TurnB B wn wm p o' most s') : ∃ o2, MidM B w p o most lv l nR nK nX x k s' o2 wm := by
  obtain ⟨hb, hn, hm, hk, hv, hr, hkk, hx⟩ := h
  obtain ⟨o2, b2, n2, m2⟩ := ht
  have kR := (hk nR (.inl rfl)).2
  have kK := (hk nK (.inr (.inl rfl))).2
  have kX := (hk nX (.inr (.inr (.inl rfl)))).2
  refine ⟨o2, b2, hn.trans n2 hm.size, hm.own hn m2, fun b hb => ?_, vals_moved hv m2 fun ad n c e => (hk _ (.inr (.inr (.inr ⟨ad, n, c, e, rfl⟩)))).2, m2.heap hr kR, m2.heap hkk kK, m2.heap hx kX⟩
  have h1 := hk b hb
  refine ⟨Nat.lt_of_lt_of_le h1.1 m2.size, ?_⟩
  rintro (e | e)
  · exact h1.2 (.inl e)
  · rcases n2 b e.symm with e2 | e2
    · exact h1.2 (.inr e2.symm)
    · omega
theorem MidM.grew (h : MidM B w p o most lv l nR nK nX x k s o' wn) (hg : Grew wn wm) : ∃ o2, MidM B w p o most lv l nR nK nX x k s o2 wm := h.step ((TurnB.refl h.1).grew hg)
theorem MidM.turnSet (h : MidM B w p o most lv l nR nK nX x k s o' wn) (hge : w.heap.size ≤ nR) (v0 v1 v2 : Value) : TurnB B w (((wn.setCell ⟨nR, 0, none⟩ v0).setCell ⟨nR, 1, none⟩ v1).setCell ⟨nR, 2, none⟩ v2) p o most s := by
  obtain ⟨hb, hn, hm, hk, _⟩ := h
  have kR := (hk nR (.inl rfl)).2
  have m : Moved (fun k => k = nR) wn (((wn.setCell ⟨nR, 0, none⟩ v0).setCell ⟨nR, 1, none⟩ v1).setCell ⟨nR, 2, none⟩ v2) :=
    Moved.setCell (S := fun k => k = nR) (p := ⟨nR, 2, none⟩) (Moved.setCell (S := fun k => k = nR) (p := ⟨nR, 1, none⟩) (Moved.setCell (S := fun k => k = nR) (p := ⟨nR, 0, none⟩) (Moved.refl _ wn) (fun _ => rfl) v0) (fun _ => rfl) v1) (fun _ => rfl) v2
  refine ⟨o', hb.kept m (fun e => kR (.inl e.symm)) (fun k e e2 => kR (.inr (by rw [e, e2]))), hn, hm.trans m fun j hj e => by omega⟩
end
theorem checkE_width {k : V3} {l : List V3} (h : checkE k l = 0) : isW k.2.1 = true := by
  unfold checkE at h
  split at h
  · split at h
    · assumption
    · cases h
  · cases h
set_option maxRecDepth 100000 in
set_option maxHeartbeats 8000000 in
theorem put_map {B : Nat} {w : World} {p : Nat} {o : Option Nat} {most : Int} (s : St) (k : V3) (lv : Value) (l : List V3) (h : BufAt B w p o s.1 most s.2) (hB : B ≤ w.heap.size) (hl : (s.1.length : Int) ≤ most) (hm1 : most ≤ 1048576)
    (hv : ValsAt w lv l) (hnil : ∀ c, lv = .slice none 0 c → c = 0) (hlen : l.length ≤ 1048575) (hok : ∀ v ∈ l, okV v) (hkk : okV k) (hap : ∀ ad n c, lv = .slice (some ad) n c → ad.block < w.heap.size ∧ ¬ Own2 p o ad.block) (hs : s.2 = 0) :
    Calls Try.prog 10 #[bptr p, vV k, lv] w fun r w' => r = .returned (putV (putM most k l s).1) ∧ TurnB B w w' p o most (putM most k l s).2 := by
  obtain ⟨k0, k1, k2⟩ := k
  have HB0 := Lib.hid h
  have HA := Lib.hid hap
  have HOK := Lib.hid hok
  have HKK := Lib.hid hkk
  have HV := Lib.hid hv
  have HN := Lib.hid hnil
  obtain ⟨a, c, rfl, hcell⟩ := hv
  show Calls Try.prog 10 #[bptr p, .agg #[.int .i64 k0, .int .i64 k1, .int .u64 k2], .slice a l.length c] w _
  generalize hP : putM most (k0, k1, k2) l s = P
  have HPP := Lib.hid hP
  clear h hap hok hcell hkk hnil hP
  go_enter Try.func10, Try.ntmps10
  go_wp2_with fail
  have hg0 : Grew w ((w.alloc (rowV (k0, k1, k2))).alloc (rowV (0, 0, 0))) := ((Grew.refl w).alloc _).alloc _
  have hrK : ((w.alloc (rowV (k0, k1, k2))).alloc (rowV (0, 0, 0))).heap[w.heap.size]? = some (rowV (k0, k1, k2)) := ((Grew.refl _).alloc _).heap (heap_alloc_new w _)
  have hrR : ((w.alloc (rowV (k0, k1, k2))).alloc (rowV (0, 0, 0))).heap[w.heap.size + 1]? = some (rowV (0, 0, 0)) := by
    have h := heap_alloc_new (w.alloc (rowV (k0, k1, k2))) (rowV (0, 0, 0))
    simpa using h
  generalize ((w.alloc (rowV (k0, k1, k2))).alloc (rowV (0, 0, 0))) = w1 at *
  have HG1 := Lib.hid hg0
  have HRK := Lib.hid hrK
  have HRR := Lib.hid hrR
  clear hg0 hrK hrR
  refine (err_any (HB0.out.grew HG1.out)).mono ?_
  rw [hs]
  rintro r w' ⟨rfl, e⟩
  rw [e]
  clear e w'
  have ck0 := row_cell HRK.out 0 _ rfl
  have ck1 := row_cell HRK.out 1 _ rfl
  have ck2 := row_cell HRK.out 2 _ rfl
  go_wp2_with fail
  refine (check_any (k0, k1, k2) _ l _ (HV.out.grew HG1.out) HN.out hlen).mono ?_
  rintro r w2 ⟨rfl, hg2⟩
  have HG2 := Lib.hid (HG1.out.trans hg2)
  have HRK2 := Lib.hid (hg2.heap HRK.out)
  have HRR2 := Lib.hid (hg2.heap HRR.out)
  clear hg2 ck0 ck1 ck2 HRK HRR HG1
  by_cases hce : checkE (k0, k1, k2) l = 0
  · have HWK := Lib.hid (checkE_width hce)
    have HCE := Lib.hid hce
    rw [hce]
    clear hce
    have HB2 := Lib.hid (HB0.out.grew HG2.out)
    have HV2 := Lib.hid (HV.out.grew HG2.out)
    have c0 := row_cell HRK2.out 0 _ rfl
    have c1 := row_cell HRK2.out 1 _ rfl
    have c2 := row_cell HRK2.out 2 _ rfl
    go_wp2_with fail
    refine wp_region_tables Grew [[], [0], [], [], [1, 2, 3], [4]] [[(33, 2), (34, 3), (35, 4), (10, 5)], [(31, 0), (33, 2), (34, 3), (10, 5)], [(31, 0), (32, 1), (34, 3), (10, 5)], [(31, 0), (32, 1), (33, 2), (10, 5)], [(31, 0), (32, 1), (33, 2), (34, 3)], [(31, 0), (32, 1), (33, 2), (34, 3), (35, 4)]] [(31, 0), (32, 1), (33, 2), (34, 3), (35, 4), (10, 5)]
      [Is (bptr p), Is (.int .i64 (s.1.length : Int)), Is (.agg #[.int .i64 k0, .int .i64 k1, .int .u64 k2]), Is (.slice a l.length c), Is (.int .i64 (allF l (k0, k1, k2) s.1.length 3)), Is (.int .i64 (allF l (k0, k1, k2) s.1.length 3))]
      (by kernel_rfl) Grew.trans Grew.refl (Grew.refl _).drew (by kernel_rfl) ⟨is_st, is_st, is_st, is_st, is_st, is_st, trivial⟩ ⟨?_, ?_, ?_, ?_, ?_, ?_, trivial⟩ rfl ?_
    · intro y w2 hG hD K hK
      simp only [fillL, Act.put, List.setIfInBounds_toArray, List.set_cons_zero, List.set_cons_succ, List.getD_cons_zero, List.getD_cons_succ, Is] at hK ⊢
      refine ite_yes (by rfl) ?_
      go_simp
      exact hK _ _ _ rfl (Grew.refl _) rfl
    · intro y w2 hG hD K hK
      simp only [depsH, List.getD_cons_zero, List.getD_cons_succ, Is, and_true] at hD
      have h0 := hD
      clear hD
      simp only [fillL, Act.put, List.setIfInBounds_toArray, List.set_cons_zero, List.set_cons_succ, List.getD_cons_zero, List.getD_cons_succ, Is] at hK ⊢
      rw [h0] at hK ⊢
      clear h0
      refine ite_yes (by rfl) ?_
      go_simp
      refine (len_any (HB2.out.grew hG)).mono ?_
      rintro r w3 ⟨rfl, rfl⟩
      exact hK _ _ _ rfl (Grew.refl _) rfl
    · intro y w2 hG hD K hK
      have dc0 := hG.cell c0
      have dc1 := hG.cell c1
      have dc2 := hG.cell c2
      simp only [fillL, Act.put, List.setIfInBounds_toArray, List.set_cons_zero, List.set_cons_succ, List.getD_cons_zero, List.getD_cons_succ, Is] at hK ⊢
      refine ite_yes (by rfl) ?_
      go_simp
      exact hK _ _ _ rfl (Grew.refl _) rfl
    · intro y w2 hG hD K hK
      simp only [fillL, Act.put, List.setIfInBounds_toArray, List.set_cons_zero, List.set_cons_succ, List.getD_cons_zero, List.getD_cons_succ, Is] at hK ⊢
      refine ite_yes (by rfl) ?_
      go_simp
      exact hK _ _ _ rfl (Grew.refl _) rfl
    · intro y w2 hG hD K hK
      simp only [depsH, List.getD_cons_zero, List.getD_cons_succ, Is, and_true] at hD
      have h1 := hD.1
      have h2 := hD.2.1
      have h3 := hD.2.2
      clear hD
      simp only [fillL, Act.put, List.setIfInBounds_toArray, List.set_cons_zero, List.set_cons_succ, List.getD_cons_zero, List.getD_cons_succ, Is] at hK ⊢
      rw [h1, h2, h3] at hK ⊢
      clear h1 h2 h3
      refine ite_yes (by rfl) ?_
      go_simp
      refine (Ft.all_any l (k0, k1, k2) _ 3 _ _ (by omega) HOK.out HKK.out (HV2.out.grew hG)).mono ?_
      rintro r w3 ⟨rfl, hg⟩
      exact hK _ _ _ rfl hg rfl
    · intro y w2 hG hD K hK
      simp only [depsH, List.getD_cons_zero, List.getD_cons_succ, Is, and_true] at hD
      have h4 := hD
      clear hD
      simp only [fillL, Act.put, List.setIfInBounds_toArray, List.set_cons_zero, List.set_cons_succ, List.getD_cons_zero, List.getD_cons_succ, Is] at hK ⊢
      rw [h4] at hK ⊢
      clear h4
      refine ite_yes (by rfl) ?_
      go_simp
      exact hK _ _ _ rfl (Grew.refl _) rfl
    · intro y w2 hG hF
      simp only [factsH, Is, and_true, Nat.reduceAdd] at hF
      have h0 := hF.1
      have h1 := hF.2.1
      have h2 := hF.2.2.1
      have h3 := hF.2.2.2.1
      have h4 := hF.2.2.2.2.1
      have h5 := hF.2.2.2.2.2
      clear hF
      simp only [fillL, Act.put, List.setIfInBounds_toArray, List.set_cons_zero, List.set_cons_succ, List.getD_cons_zero, List.getD_cons_succ, Is]
      rw [h0, h1, h2, h3, h4, h5]
      clear h0 h1 h2 h3 h4 h5
      have HG3 := Lib.hid (HG2.out.trans hG)
      have HRK3 := Lib.hid (hG.heap HRK2.out)
      have HRR3 := Lib.hid (hG.heap HRR2.out)
      clear hG c0 c1 c2 HB2 HV2 HRK2 HRR2 HG2
      by_cases hx : allF l (k0, k1, k2) s.1.length 3 = 0
      · have hF : putM most (k0, k1, k2) l s = (((0, 0, 0), 211), s) := by
          unfold putM
          rw [if_neg (by simpa using HCE.out)]
          simp [hx]
        have HF := Lib.hid hF
        clear hF
        rw [hx]
        have hrow := HRR3.out
        have f0 := row_frozen hrow 0
        have f1 := row_frozen hrow 1
        have f2 := row_frozen hrow 2
        have c0 := row_cell hrow 0 _ rfl
        have c1 := row_cell hrow 1 _ rfl
        have c2 := row_cell hrow 2 _ rfl
        clear hrow
        go_wp2
        refine bodyPost_ret (v := putV ((0, 0, 0), 211)) ?_ rfl ⟨?_, ?_⟩
        · simp [results, Try.results10, go_sem, c0, c1, c2, putV, vV]
        · rw [← HPP.out, HF.out]
        · rw [← HPP.out, HF.out]
          exact (TurnB.refl HB0.out).grew (((HG3.out.setCell (Nat.le_succ _) _).setCell (Nat.le_succ _) _).setCell (Nat.le_succ _) _)
      · have HX := Lib.hid (allF_isWk hx)
        have HF : Hid (∀ x, allF l (k0, k1, k2) s.1.length 3 = x → x ≠ 0 → putM most (k0, k1, k2) l s = if (tagsS most x l (elemsS most x l (headM most x (k0, k1, k2) l.length s))).2 ≠ 0 then (((0, 0, 0), (tagsS most x l (elemsS most x l (headM most x (k0, k1, k2) l.length s))).2), tagsS most x l (elemsS most x l (headM most x (k0, k1, k2) l.length s))) else (((9, x, ((headM most x (k0, k1, k2) l.length s).1.length : Int)), 0), tagsS most x l (elemsS most x l (headM most x (k0, k1, k2) l.length s)))) := by
          show ∀ x, _ = x → _
          intro x hx hx0
          unfold putM
          rw [if_neg (by simpa using HCE.out)]
          simp only
          rw [hx, if_neg hx0]
        replace HF := Lib.hid (HF.out _ rfl hx)
        generalize allF l (k0, k1, k2) s.1.length 3 = x at *
        have hxb : (x == 0) = false := by simpa using hx
        go_wp2_with fail
        have hrX := heap_alloc_new w2 (.cells #[bptr p, .int .i64 x] 63)
        have hgX := (Grew.refl w2).alloc (.cells #[bptr p, .int .i64 x] 63)
        have hszX : (w2.alloc (.cells #[bptr p, .int .i64 x] 63)).heap.size = w2.heap.size + 1 := by simp
        have M0 : MidM B w p o most (.slice a l.length c) l (w.heap.size + 1) w.heap.size w2.heap.size x (k0, k1, k2) s o (w2.alloc (.cells #[bptr p, .int .i64 x] 63)) := by
          have hb0 := HB0.out.lt
          have hs3 := HG3.out.size
          have hR := (Array.getElem?_eq_some_iff.1 HRR3.out).1
          have hG := HG3.out.trans hgX
          refine ⟨HB0.out.grew hG, Next.refl _ _, Moved.of_grew hG, ?_, HV.out.grew hG, hgX.heap HRR3.out, hgX.heap HRK3.out, hrX⟩
          rintro b (rfl | rfl | rfl | ⟨ad, n, c', e, rfl⟩)
          · exact ⟨by omega, fun h => by have := hb0 _ h; omega⟩
          · exact ⟨by omega, fun h => by have := hb0 _ h; omega⟩
          · exact ⟨by omega, fun h => by have := hb0 _ h; omega⟩
          · have := HA.out ad n c' e
            exact ⟨by omega, this.2⟩
        have HB3 : B ≤ (w2.alloc (.cells #[bptr p, .int .i64 x] 63)).heap.size := by have := HG3.out.size; omega
        have HM0 := Lib.hid M0
        generalize (w2.alloc (.cells #[bptr p, .int .i64 x] 63)) = v0 at *
        generalize hnX : w2.heap.size = nX at *
        clear M0 hrX hgX hszX HRK3 HRR3 HG3 hnX
        refine (align_any s x HM0.out.1 HB3 hl hm1).mono ?_
        rintro r v1 ⟨rfl, ht⟩
        have HB4 : B ≤ v1.heap.size := by obtain ⟨_, _, _, m⟩ := ht; exact Nat.le_trans HB3 m.size
        obtain ⟨o1, m1⟩ := HM0.out.step ht
        have HM1 := Lib.hid m1
        have b0 := row_cell m1.2.2.2.2.2.2.2 0 _ rfl
        have b1 := row_cell m1.2.2.2.2.2.2.2 1 _ rfl
        have a0 := row_cell m1.2.2.2.2.2.2.1 0 _ rfl
        have a1 := row_cell m1.2.2.2.2.2.2.1 1 _ rfl
        have a2 := row_cell m1.2.2.2.2.2.2.1 2 _ rfl
        clear ht m1
        go_wp2_with fail
        refine (element_any (alignS most x s) x (k0, k1, k2) HX.out HM1.out.1 HB4 (alignS_le hl) hm1 HKK.out).mono ?_
        rintro r v2 ⟨rfl, ht⟩
        have HB5 : B ≤ v2.heap.size := by obtain ⟨_, _, _, m⟩ := ht; exact Nat.le_trans HB4 m.size
        obtain ⟨o2, m2⟩ := HM1.out.step ht
        have HM2 := Lib.hid m2
        replace b0 := row_cell m2.2.2.2.2.2.2.2 0 _ rfl
        replace b1 := row_cell m2.2.2.2.2.2.2.2 1 _ rfl
        replace a1 := row_cell m2.2.2.2.2.2.2.1 1 _ rfl
        clear ht m2 a0 a2
        have hk1 : 1 ≤ k1 ∧ k1 ≤ 8 := isW_pos HWK.out
        have hk1a := hk1.1
        have hk1b := hk1.2
        clear hk1
        go_wp2_with fail
        refine (num_any (elemS most x (alignS most x s) (k0, k1, k2)) x k1 HM2.out.1 HB5 (elemS_le (alignS_le hl)) hm1 (by omega) (by omega)).mono ?_
        rintro r v3 ⟨rfl, ht⟩
        have HB6 : B ≤ v3.heap.size := by obtain ⟨_, _, _, m⟩ := ht; exact Nat.le_trans HB5 m.size
        obtain ⟨o3, m3⟩ := HM2.out.step ht
        have HM3 := Lib.hid m3
        replace b0 := row_cell m3.2.2.2.2.2.2.2 0 _ rfl
        replace b1 := row_cell m3.2.2.2.2.2.2.2 1 _ rfl
        clear ht m3 a1
        go_wp2_with fail
        refine (num_any (numS most x k1 (elemS most x (alignS most x s) (k0, k1, k2))) x (l.length : Int) HM3.out.1 HB6 (numS_le (elemS_le (alignS_le hl))) hm1 (by omega) (by omega)).mono ?_
        rintro r v4 ⟨rfl, ht⟩
        have HB7 : B ≤ v4.heap.size := by obtain ⟨_, _, _, m⟩ := ht; exact Nat.le_trans HB6 m.size
        obtain ⟨o4, m4⟩ := HM3.out.step ht
        have HM4 : Hid (MidM B w p o most (.slice a l.length c) l (w.heap.size + 1) w.heap.size nX x (k0, k1, k2) (headM most x (k0, k1, k2) l.length s) o4 v4) := m4
        replace b0 := row_cell m4.2.2.2.2.2.2.2 0 _ rfl
        replace b1 := row_cell m4.2.2.2.2.2.2.2 1 _ rfl
        have HLE : Hid (((headM most x (k0, k1, k2) l.length s).1.length : Int) ≤ most) := numS_le (numS_le (elemS_le (alignS_le hl)))
        clear ht m4 HM0 HM1 HM2 HM3 HB3 HB4 HB5 HB6
        go_wp2_with fail
        refine (len_any HM4.out.1).mono ?_
        rintro r w' ⟨rfl, e⟩
        rw [e]
        clear e w'
        generalize headM most x (k0, k1, k2) l.length s = s4 at *
        have hs4 : (s4.1.length : Int) ≤ 1048576 := by have := HLE.out; omega
        clear b0 b1
        go_wp2_with fail
        go_loopw [68] (fun i wr => ∃ j : Nat, j ≤ l.length ∧ i = .int .i64 j ∧ Hid (∃ oj, MidM B w p o most (.slice a l.length c) l (w.heap.size + 1) w.heap.size nX x (k0, k1, k2) (elemsS most x (l.take j) s4) oj wr ∧ B ≤ wr.heap.size)) (fun i _ => l.length - (intOf i).toNat)
        case atStart => exact ⟨0, Nat.zero_le _, rfl, o4, HM4.out, HB7⟩
        case round =>
          obtain ⟨j, hj, rfl, HW⟩ := hrel
          by_cases hlt : j < l.length
          · obtain ⟨v, hv⟩ : ∃ v, l[j]? = some v := ⟨_, List.getElem?_eq_getElem hlt⟩
            obtain ⟨oj, mj, hBj⟩ := HW.out
            have HMJ := Lib.hid mj
            have HBJ := Lib.hid hBj
            have HSN := Lib.hid (elemsS_snoc most x l s4 j hlt)
            have HLJ := Lib.hid (elemsS_le (x := x) (l.take j) HLE.out)
            have HVK := Lib.hid (HOK.out v (List.mem_of_getElem? hv))
            have b0 := row_cell mj.2.2.2.2.2.2.2 0 _ rfl
            have b1 := row_cell mj.2.2.2.2.2.2.2 1 _ rfl
            obtain ⟨a', c', ev, hc⟩ := mj.2.2.2.2.1
            cases ev
            obtain ⟨bl, off, rfl, d0, d1, d2⟩ := hc j v hv
            have HVE : Hid (l[j] = v) := (List.getElem?_eq_some_iff.1 hv).2
            clear hv mj hBj hc HW
            have hji : (j : Int) < l.length := by omega
            obtain ⟨ty, wd, vn⟩ := v
            simp only at d0 d1 d2
            have hga := (Grew.refl wr).alloc (.cells #[.int .i64 ty, .int .i64 wd, .int .u64 vn] 30)
            have e0 := hga.cell b0
            have e1 := hga.cell b1
            have HGA := Lib.hid hga
            clear hga
            go_wp2_with fail
            have hga := HGA.out
            refine (element_any (elemsS most x (l.take j) s4) x (ty, wd, vn) HX.out (HMJ.out.1.grew hga) (Nat.le_trans HBJ.out hga.size) HLJ.out hm1 HVK.out).mono ?_
            rintro r wn ⟨rfl, ht⟩
            have HT : Hid (∃ oj, MidM B w p o most (.slice (some ⟨bl, off, none⟩) l.length c) l (w.heap.size + 1) w.heap.size nX x (k0, k1, k2) (elemsS most x (l.take (j + 1)) s4) oj wn ∧ B ≤ wn.heap.size) := by
              obtain ⟨oa, ma⟩ := HMJ.out.step (TurnB.after hga ht)
              show ∃ oj, _ ∧ _
              rw [HSN.out, HVE.out]
              obtain ⟨_, _, _, mm⟩ := ht
              exact ⟨oa, ma, Nat.le_trans HBJ.out (Nat.le_trans hga.size mm.size)⟩
            clear ht hga d0 d1 d2 b0 b1 e0 e1
            go_wp2
            go_roundw
            case rel => exact ⟨j + 1, by omega, by go_num, HT.out⟩
            case measure => simp [intOf]; omega
          · have ej : j = l.length := by omega
            have HM5 : Hid (∃ oj, MidM B w p o most (.slice a l.length c) l (w.heap.size + 1) w.heap.size nX x (k0, k1, k2) (elemsS most x l s4) oj wr ∧ B ≤ wr.heap.size) := by
              have := HW.out
              rw [ej, List.take_length] at this
              exact this
            have HLE5 := Lib.hid (elemsS_le (x := x) l HLE.out)
            have hge : (l.length : Int) ≤ j := by omega
            have hdb : decide (j < l.length) = false := by simp; omega
            clear HW hlt ej hj
            generalize elemsS most x l s4 = s5 at *
            go_wp2_with fail
            go_loopw [78] (fun i wr => ∃ j : Nat, j ≤ l.length ∧ i = .int .i64 j ∧ Hid (∃ oj, MidM B w p o most (.slice a l.length c) l (w.heap.size + 1) w.heap.size nX x (k0, k1, k2) (tagsS most x (l.take j) s5) oj wr ∧ B ≤ wr.heap.size)) (fun i _ => l.length - (intOf i).toNat)
            case atStart =>
              obtain ⟨oj, mj, hBj⟩ := HM5.out
              exact ⟨0, Nat.zero_le _, rfl, oj, mj, hBj⟩
            case round =>
              obtain ⟨j, hj, rfl, HW⟩ := hrel
              by_cases hlt : j < l.length
              · obtain ⟨v, hv⟩ : ∃ v, l[j]? = some v := ⟨_, List.getElem?_eq_getElem hlt⟩
                obtain ⟨oj, mj, hBj⟩ := HW.out
                have HMJ := Lib.hid mj
                have HBJ := Lib.hid hBj
                have HSN := Lib.hid (tagsS_snoc most x l s5 j hlt)
                have HLJ := Lib.hid (tagsS_le (x := x) (l.take j) HLE5.out)
                have b0 := row_cell mj.2.2.2.2.2.2.2 0 _ rfl
                have b1 := row_cell mj.2.2.2.2.2.2.2 1 _ rfl
                obtain ⟨a', c', ev, hc⟩ := mj.2.2.2.2.1
                cases ev
                obtain ⟨bl, off, rfl, d0, d1, d2⟩ := hc j v hv
                have HVE : Hid (l[j] = v) := (List.getElem?_eq_some_iff.1 hv).2
                clear hv mj hBj hc HW
                have hji : (j : Int) < l.length := by omega
                obtain ⟨ty, wd, vn⟩ := v
                simp only at d0 d1 d2
                have hga := (Grew.refl wr).alloc (.cells #[.int .i64 ty, .int .i64 wd, .int .u64 vn] 30)
                have e0 := hga.cell b0
                have e1 := hga.cell b1
                have HGA := Lib.hid hga
                clear hga
                go_wp2_with fail
                have hga := HGA.out
                refine (mtag_any (tagsS most x (l.take j) s5) x (ty, wd, vn) (HMJ.out.1.grew hga) (Nat.le_trans HBJ.out hga.size) HLJ.out hm1).mono ?_
                rintro r wn ⟨rfl, ht⟩
                have HT : Hid (∃ oj, MidM B w p o most (.slice (some ⟨bl, off, none⟩) l.length c) l (w.heap.size + 1) w.heap.size nX x (k0, k1, k2) (tagsS most x (l.take (j + 1)) s5) oj wn ∧ B ≤ wn.heap.size) := by
                  obtain ⟨oa, ma⟩ := HMJ.out.step (TurnB.after hga ht)
                  show ∃ oj, _ ∧ _
                  rw [HSN.out, HVE.out]
                  obtain ⟨_, _, _, mm⟩ := ht
                  exact ⟨oa, ma, Nat.le_trans HBJ.out (Nat.le_trans hga.size mm.size)⟩
                clear ht hga d0 d1 d2 b0 b1 e0 e1
                go_wp2
                go_roundw
                case rel => exact ⟨j + 1, by omega, by go_num, HT.out⟩
                case measure => simp [intOf]; omega
              · have ej : j = l.length := by omega
                have hm6 : ∃ oj, MidM B w p o most (.slice a l.length c) l (w.heap.size + 1) w.heap.size nX x (k0, k1, k2) (tagsS most x l s5) oj wr ∧ B ≤ wr.heap.size := by
                  have := HW.out
                  rw [ej, List.take_length] at this
                  exact this
                obtain ⟨o6, m6, hB6⟩ := hm6
                have HM6 := Lib.hid m6
                have b0 := row_cell m6.2.2.2.2.2.2.2 0 _ rfl
                have hrow := m6.2.2.2.2.2.1
                have f0 := row_frozen hrow 0
                have f1 := row_frozen hrow 1
                have f2 := row_frozen hrow 2
                have c0 := row_cell hrow 0 _ rfl
                have c1 := row_cell hrow 1 _ rfl
                have c2 := row_cell hrow 2 _ rfl
                have hge : (l.length : Int) ≤ j := by omega
                clear HW hlt ej hj m6 hrow HM5
                go_wp2_with fail
                refine (err_any HM6.out.1).mono ?_
                rintro r w' ⟨rfl, e⟩
                rw [e]
                clear e w' b0
                by_cases hz : (tagsS most x l s5).2 = 0
                · have HF2 := Lib.hid (HF.out.trans (if_neg (by simpa using hz)))
                  rw [hz]
                  clear hz HF
                  generalize tagsS most x l s5 = s6 at *
                  go_wp2
                  refine bodyPost_ret (v := putV ((9, x, (s4.1.length : Int)), 0)) ?_ rfl ⟨?_, ?_⟩
                  · simp [results, Try.results10, go_sem, c0, c1, c2, putV, vV]
                  · rw [← HPP.out, HF2.out]
                  · rw [← HPP.out, HF2.out]
                    exact HM6.out.turnSet (Nat.le_succ _) _ _ _
                · have HF2 := Lib.hid (HF.out.trans (if_pos (by simpa using hz)))
                  clear HF
                  generalize tagsS most x l s5 = s6 at *
                  go_wp2
                  refine bodyPost_ret (v := putV ((0, 0, 0), s6.2)) ?_ rfl ⟨?_, ?_⟩
                  · simp [results, Try.results10, go_sem, c0, c1, c2, putV, vV]
                  · rw [← HPP.out, HF2.out]
                  · rw [← HPP.out, HF2.out]
                    exact HM6.out.turnSet (Nat.le_succ _) _ _ _
  · have hF : putM most (k0, k1, k2) l s = (((0, 0, 0), checkE (k0, k1, k2) l), s) := by
      unfold putM
      rw [if_pos hce]
    have HF := Lib.hid hF
    clear hF
    generalize checkE (k0, k1, k2) l = e at *
    have hrow := HRR2.out
    have f0 := row_frozen hrow 0
    have f1 := row_frozen hrow 1
    have f2 := row_frozen hrow 2
    have c0 := row_cell hrow 0 _ rfl
    have c1 := row_cell hrow 1 _ rfl
    have c2 := row_cell hrow 2 _ rfl
    clear hrow
    go_wp2
    refine bodyPost_ret (v := putV ((0, 0, 0), e)) ?_ rfl ⟨?_, ?_⟩
    · simp [results, Try.results10, go_sem, c0, c1, c2, putV, vV]
    · rw [← HPP.out, HF.out]
    · rw [← HPP.out, HF.out]
      exact (TurnB.refl HB0.out).grew (((HG2.out.setCell (Nat.le_succ _) _).setCell (Nat.le_succ _) _).setCell (Nat.le_succ _) _)
end Go.Proofs.Ytajpbclcfjljnaa

/-
  Maps: the law's helpers.
-/
namespace Go.Proofs.Ytajpbclcfjljnaa
open Go Go.ChangeShapes Go.WideShapes Go.ChangeAt Go.RowKit Go.Joins
open Go.Proofs.Ytajpbclcfjljnaa.Ft (V3 vV okV ValsAt inlineB legalB packF codeF typedF allF)
set_option linter.unusedVariables false
set_option linter.unusedSimpArgs false
theorem num18_any (n x : Int) (w : World) : Calls Try.prog 36 #[.int .i64 n, .int .i64 x] w fun r w' => r = .returned (.agg #[.int .i64 1, .int .i64 x, .int .u64 (IntKind.u64.wrap n)]) ∧ Grew w w' := by
  go_enter Try.func36, Try.ntmps36
  go_wp2
  exact bodyPost_ret (v := .agg #[.int .i64 1, .int .i64 x, .int .u64 (IntKind.u64.wrap n)]) (by simp [results, Try.results36, go_sem]) rfl ⟨rfl, (Grew.refl w).alloc _⟩
theorem key18_any (n : Int) (w : World) : Calls Try.prog 20 #[.int .u64 n] w fun r w' => r = .returned (.agg #[.int .i64 4, .int .i64 1, .int .u64 n]) ∧ Grew w w' := by
  go_enter Try.func20, Try.ntmps20
  go_wp2
  exact bodyPost_ret (v := .agg #[.int .i64 4, .int .i64 1, .int .u64 n]) (by simp [results, Try.results20, go_sem]) rfl ⟨rfl, (Grew.refl w).alloc _⟩
theorem keys18_any (n x : Int) (w : World) : Calls Try.prog 11 #[.int .u64 n, .int .i64 x] w fun r w' => r = .returned (.agg #[.int .i64 14, .int .i64 x, .int .u64 n]) ∧ Grew w w' := by
  go_enter Try.func11, Try.ntmps11
  go_wp2
  exact bodyPost_ret (v := .agg #[.int .i64 14, .int .i64 x, .int .u64 n]) (by simp [results, Try.results11, go_sem]) rfl ⟨rfl, (Grew.refl w).alloc _⟩
set_option maxRecDepth 100000 in
theorem filled18_any (most : Int) (n : Nat) (w : World) (hn : n ≤ 1073741824) : Calls Try.prog 9 #[.int .i64 most, .int .i64 n] w fun r w' => r = .returned (bptr w.heap.size) ∧ Live w w' w.heap.size (roomOf most) (putS (roomOf most) (zeros n) ([], 0)) := by
  go_enter Try.func9, Try.ntmps9
  go_wp2_with fail
  refine (new_any most _).mono ?_
  rintro r w1 ⟨rfl, hb, hg, hlt⟩
  have HL := Lib.hid (Live.new (w0 := w) (Below.refl _ _) hb hg (by unfold roomOf; omega) (by unfold roomOf; omega))
  clear hb hg
  go_wp2_with fail
  obtain ⟨w2, hr, hv, hg⟩ := make_zeros w1 n (by omega)
  have hs := str_of_bytes hv
  have HL2 := Lib.hid (HL.out.grew hg)
  rw [hr]
  clear hr hv hg HL
  go_wp2_with fail
  refine (textL1 _ _ rfl (by rw [size_zero]; exact hn) HL2.out).mono ?_
  rintro r w3 ⟨rfl, hl⟩
  rw [bytes_zero] at hl
  have HL3 := Lib.hid hl
  clear hl HL2 hs
  go_wp2
  go_ret
  exact ⟨rfl, HL3.out⟩
def valM (x : Int × Int) (a : Int) : V3 := if x.1 % 2 = 0 then (1, widF (x.2 % 1099511627776), x.2 % 1099511627776) else (kindF (x.2 % 1099511627776 % 5), shlF (x.2 % 1099511627776 / 5 % 4), x.2 % 1099511627776 % a)
def valsM (l : List (Int × Int)) (a : Int) : List V3 := (l.take 300).map (valM · a)
theorem valsM_length (l : List (Int × Int)) (a : Int) : (valsM l a).length = min 300 l.length := by simp [valsM]
theorem valsM_all (l : List (Int × Int)) (a : Int) : valsM (l.take 300) a = valsM l a := by simp [valsM, List.take_take]
theorem valsM_snoc {l : List (Int × Int)} {k : Nat} {x : Int × Int} (h : l[k]? = some x) (hk : k < 300) (a : Int) : valsM (l.take k) a ++ [valM x a] = valsM (l.take (k + 1)) a := by
  obtain ⟨hl, hx⟩ := List.getElem?_eq_some_iff.1 h
  unfold valsM
  rw [List.take_take, List.take_take, Nat.min_eq_right (by omega : k ≤ 300), Nat.min_eq_right (by omega : k + 1 ≤ 300), List.take_succ_eq_append_getElem hl, List.map_append, hx]
  rfl
set_option maxRecDepth 100000 in
set_option maxHeartbeats 4000000 in
theorem value18_any (x : Int × Int) (a : Int) (w : World) (h0 : 1 ≤ a) (h1 : a ≤ 4611686018427387904) : Calls Try.prog 24 #[pairV x, .int .i64 a] w fun r w' => r = .returned (vV (valM x a)) ∧ Grew w w' := by
  obtain ⟨x0, x1⟩ := x
  show Calls Try.prog 24 #[.agg #[.int .i64 x0, .int .i64 x1], .int .i64 a] w _
  have HR : Hid (valM (x0, x1) a = if x0 % 2 = 0 then (1, widF (x1 % 1099511627776), x1 % 1099511627776) else (kindF (x1 % 1099511627776 % 5), shlF (x1 % 1099511627776 / 5 % 4), x1 % 1099511627776 % a)) := rfl
  generalize valM (x0, x1) a = R at *
  go_enter Try.func24, Try.ntmps24
  go_wp2_with fail
  refine (bringL_any x1 1099511627776 _ (by omega) (by omega)).mono ?_
  rintro r w1 ⟨rfl, rfl⟩
  have n0 : 0 ≤ x1 % 1099511627776 := by omega
  have n1 : x1 % 1099511627776 < 1099511627776 := by omega
  generalize x1 % 1099511627776 = n at *
  generalize hW : ((w.alloc (.cells #[.int .i64 x0, .int .i64 x1] 51)).alloc (.cells #[.int .i64 0, .int .i64 0, .int .u64 0] 30)) = W
  have HG : Hid (Grew w W) := by subst hW; exact ((Grew.refl w).alloc _).alloc _
  have hx : W.heap[w.heap.size]? = some (.cells #[.int .i64 x0, .int .i64 x1] 51) := by subst hW; exact ((Grew.refl _).alloc _).heap (heap_alloc_new _ _)
  have hr : W.heap[w.heap.size + 1]? = some (.cells #[.int .i64 0, .int .i64 0, .int .u64 0] 30) := by
    subst hW
    have h := heap_alloc_new (w.alloc (.cells #[.int .i64 x0, .int .i64 x1] 51)) (.cells #[.int .i64 0, .int .i64 0, .int .u64 0] 30)
    simpa using h
  have cx := row_cell hx 0 _ rfl
  have HROW := Lib.hid hr
  clear hW hx hr
  go_wp2_with fail
  go_loopw [6] (fun i wr => ∃ k : Int, i = .int .i64 k ∧ wr = W ∧ Hid ((k = 8) ∨ (k = 4 ∧ n < 2147483648) ∨ (k = 2 ∧ n < 32768) ∨ (k = 1 ∧ n < 128))) (fun i _ => (intOf i).toNat)
  case atStart => exact ⟨8, rfl, rfl, .inl rfl⟩
  case round =>
    obtain ⟨k, rfl, rfl, HK⟩ := hrel
    rcases HK.out with k8 | ⟨k4, hq⟩ | ⟨k2, hq⟩ | ⟨k1, hq⟩
    · subst k8
      clear HK
      by_cases hn : n < 2147483648
      · go_wp2
        go_roundw
        case rel => exact ⟨4, rfl, trivial, by show _ ∨ _; omega⟩
        case measure => simp [intOf]
      · have HE : Hid (widF n = 8) := by show _ = _; unfold widF; repeat' split; all_goals omega
        go_wp2_with fail
        refine (bringL_any x0 2 _ (by omega) (by omega)).mono ?_
        rintro r w1 ⟨rfl, rfl⟩
        have m0 : 0 ≤ x0 % 2 := by omega
        have m1 : x0 % 2 < 2 := by omega
        generalize x0 % 2 = m at *
        by_cases e0 : m = 0
        · subst e0
          have HF : Hid (R = (1, 8, n)) := HR.out.trans (by simp [HE.out])
          have hmw : IntKind.u64.wrap n = n := by rw [IntKind.wrap_u64]; omega
          go_wp2_with fail
          refine (num18_any n 8 _).mono ?_
          rintro r w2 ⟨rfl, hg⟩
          have HG2 := Lib.hid (HG.out.trans hg)
          have hrow := hg.heap HROW.out
          have f0 := row_frozen hrow 0
          have f1 := row_frozen hrow 1
          have f2 := row_frozen hrow 2
          have c0 := row_cell hrow 0 _ rfl
          have c1 := row_cell hrow 1 _ rfl
          have c2 := row_cell hrow 2 _ rfl
          clear hrow hg
          go_wp2
          refine bodyPost_ret (v := vV (1, 8, n)) (by simp [results, Try.results24, go_sem, c0, c1, c2, vV]) rfl ⟨by rw [HF.out], ((HG2.out.setCell (Nat.le_succ _) _).setCell (Nat.le_succ _) _).setCell (Nat.le_succ _) _⟩
        have HF : Hid (R = (kindF (n % 5), shlF (n / 5 % 4), n % a)) := HR.out.trans (by rw [if_neg e0])
        go_wp2_with fail
        have b0 : (m == 0) = false := by simpa using e0
        simp only [b0]
        clear b0 e0 m0 m1 HR
        obtain ⟨k5, hk5⟩ : ∃ k : Nat, n % 5 = k := ⟨(n % 5).toNat, by omega⟩
        obtain ⟨k4, hk4⟩ : ∃ k : Nat, n / 5 % 4 = k := ⟨(n / 5 % 4).toNat, by omega⟩
        have l5 : k5 < 5 := by omega
        have l4 : k4 < 4 := by omega
        obtain ⟨q, hq⟩ : ∃ q : Int, n / 5 = q := ⟨_, rfl⟩
        rw [hq] at hk4
        have q0 : 0 ≤ q := by omega
        have q1 : q ≤ 1099511627776 := by omega
        obtain ⟨rr, hrr⟩ : ∃ r : Int, n % a = r := ⟨_, rfl⟩
        have ham0 : ¬ a = 0 := by omega
        replace HF : Hid (R = (kindF k5, shlF k4, rr)) := HF.out.trans (by rw [hk5, hq, hk4, hrr])
        have t5 : n.tmod 5 = (k5 : Int) := by rw [Int.tmod_eq_emod_of_nonneg n0]; exact hk5
        have d5 : n.tdiv 5 = q := by rw [Int.tdiv_eq_ediv_of_nonneg n0]; exact hq
        have t4 : q.tmod 4 = (k4 : Int) := by rw [Int.tmod_eq_emod_of_nonneg q0]; exact hk4
        have tm : n.tmod a = rr := by rw [Int.tmod_eq_emod_of_nonneg n0]; exact hrr
        have r0 : 0 ≤ rr := by rw [← hrr]; exact Int.emod_nonneg _ (by omega)
        have r1 : rr < a := by rw [← hrr]; exact Int.emod_lt_of_pos _ (by omega)
        have qw : IntKind.i64.wrap q = q := by rw [IntKind.wrap_i64]; omega
        have rw1 : IntKind.u64.wrap rr = rr := by rw [IntKind.wrap_u64]; omega
        have i5 : (k5 : Int) < 5 := by omega
        clear hk5 hk4 hq hrr
        refine wp_region_last Grew [[], [], [1], [0, 2], [3], [], [5], [6], [7], [], [], [9, 10], [11], [4, 8, 12], [13]] [[(31, 1), (32, 2), (34, 4), (35, 5), (36, 6), (37, 7), (38, 8), (39, 9), (40, 10), (41, 11), (42, 12), (43, 13)], [(30, 0), (33, 3), (34, 4), (35, 5), (36, 6), (37, 7), (38, 8), (39, 9), (40, 10), (41, 11), (42, 12), (43, 13)], [(30, 0), (31, 1), (34, 4), (35, 5), (36, 6), (37, 7), (38, 8), (39, 9), (40, 10), (41, 11), (42, 12), (43, 13)], [(30, 0), (31, 1), (32, 2), (35, 5), (36, 6), (37, 7), (38, 8), (39, 9), (40, 10), (41, 11), (42, 12), (43, 13)], [(30, 0), (31, 1), (32, 2), (33, 3), (35, 5), (36, 6), (37, 7), (38, 8), (39, 9), (40, 10), (41, 11), (42, 12)], [(30, 0), (31, 1), (32, 2), (33, 3), (34, 4), (37, 7), (38, 8), (39, 9), (40, 10), (41, 11), (42, 12), (43, 13)], [(30, 0), (31, 1), (32, 2), (33, 3), (34, 4), (35, 5), (38, 8), (39, 9), (40, 10), (41, 11), (42, 12), (43, 13)], [(30, 0), (31, 1), (32, 2), (33, 3), (34, 4), (35, 5), (36, 6), (39, 9), (40, 10), (41, 11), (42, 12), (43, 13)], [(30, 0), (31, 1), (32, 2), (33, 3), (34, 4), (35, 5), (36, 6), (37, 7), (39, 9), (40, 10), (41, 11), (42, 12)], [(30, 0), (31, 1), (32, 2), (33, 3), (34, 4), (35, 5), (36, 6), (37, 7), (38, 8), (40, 10), (42, 12), (43, 13)], [(30, 0), (31, 1), (32, 2), (33, 3), (34, 4), (35, 5), (36, 6), (37, 7), (38, 8), (39, 9), (42, 12), (43, 13)], [(30, 0), (31, 1), (32, 2), (33, 3), (34, 4), (35, 5), (36, 6), (37, 7), (38, 8), (39, 9), (40, 10), (43, 13)], [(30, 0), (31, 1), (32, 2), (33, 3), (34, 4), (35, 5), (36, 6), (37, 7), (38, 8), (39, 9), (40, 10), (41, 11)], [(30, 0), (31, 1), (32, 2), (33, 3), (34, 4), (35, 5), (36, 6), (37, 7), (38, 8), (39, 9), (40, 10), (41, 11), (42, 12)], [(30, 0), (31, 1), (32, 2), (33, 3), (34, 4), (35, 5), (36, 6), (37, 7), (38, 8), (39, 9), (40, 10), (41, 11), (42, 12), (43, 13)]]
          [fun v w => ∃ g, v = .slice (some ⟨g, 0, none⟩) 5 5 ∧ w.heap[g]? = some (.cells tabC 3), Is (.int .i64 n), Is (.int .i64 (k5 : Int)), fun v w => ∃ g, v = .pointer (some ⟨g, k5, none⟩) ∧ w.heap[g]? = some (.cells tabC 3), Is (.int .i64 (kindF k5)), Is (.int .i64 n), Is (.int .i64 q), Is (.int .i64 (k4 : Int)), Is (.int .i64 (shlF k4)), Is (.int .i64 n), Is (.int .i64 a), Is (.int .i64 rr), Is (.int .u64 rr), Is (.agg #[.int .i64 (kindF k5), .int .i64 (shlF k4), .int .u64 rr])]
          (by kernel_rfl) Grew.trans Grew.refl (Grew.refl _).drew (by kernel_rfl) ⟨tab_st, is_st, is_st, tabp_st, is_st, is_st, is_st, is_st, is_st, is_st, is_st, is_st, is_st, is_st, trivial⟩ rfl ⟨?_, ?_, ?_, ?_, ?_, ?_, ?_, ?_, ?_, ?_, ?_, ?_, ?_, ?_, trivial⟩ ?_ rfl
        · intro y w2 hG hD K hK
          simp only [fillL, Act.put, List.setIfInBounds_toArray, List.set_cons_zero, List.set_cons_succ, List.getD_cons_zero, List.getD_cons_succ, Is] at hK ⊢
          refine ite_yes (by rfl) ?_
          go_simp
          exact hK _ _ _ rfl ((Grew.refl _).alloc _) ⟨_, rfl, heap_alloc_new _ _⟩
        · intro y w2 hG hD K hK
          simp only [fillL, Act.put, List.setIfInBounds_toArray, List.set_cons_zero, List.set_cons_succ, List.getD_cons_zero, List.getD_cons_succ, Is] at hK ⊢
          refine ite_yes (by rfl) ?_
          go_simp
          exact hK _ _ _ rfl (Grew.refl _) rfl
        · intro y w2 hG hD K hK
          simp only [depsH, List.getD_cons_zero, List.getD_cons_succ, Is, and_true] at hD
          have h1 := hD
          clear hD
          simp only [fillL, Act.put, List.setIfInBounds_toArray, List.set_cons_zero, List.set_cons_succ, List.getD_cons_zero, List.getD_cons_succ, Is] at hK ⊢
          rw [h1] at hK ⊢
          clear h1
          refine ite_yes (by rfl) ?_
          go_simp
          exact hK _ _ _ rfl (Grew.refl _) rfl
        · intro y w2 hG hD K hK
          simp only [depsH, List.getD_cons_zero, List.getD_cons_succ, Is, and_true] at hD
          have h0 := hD.1
          have h2 := hD.2
          clear hD
          simp only [fillL, Act.put, List.setIfInBounds_toArray, List.set_cons_zero, List.set_cons_succ, List.getD_cons_zero, List.getD_cons_succ, Is] at hK ⊢
          rw [h2] at hK ⊢
          clear h2
          refine ite_yes (by rfl) ?_
          refine Exists.elim h0 fun g h => ?_
          have hs := h.1
          have hh := h.2
          clear h h0
          rw [hs] at hK ⊢
          go_simp
          exact hK _ _ _ rfl (Grew.refl _) ⟨g, rfl, hh⟩
        · intro y w2 hG hD K hK
          simp only [depsH, List.getD_cons_zero, List.getD_cons_succ, Is, and_true] at hD
          have h3 := hD
          clear hD
          simp only [fillL, Act.put, List.setIfInBounds_toArray, List.set_cons_zero, List.set_cons_succ, List.getD_cons_zero, List.getD_cons_succ, Is] at hK ⊢
          refine ite_yes (by rfl) ?_
          refine Exists.elim h3 fun g h => ?_
          have hs := h.1
          have hc := row_cell h.2 k5 _ (tab_cell k5 l5)
          clear h h3
          rw [hs] at hK ⊢
          go_simp
          exact hK _ _ _ rfl (Grew.refl _) rfl
        · intro y w2 hG hD K hK
          simp only [fillL, Act.put, List.setIfInBounds_toArray, List.set_cons_zero, List.set_cons_succ, List.getD_cons_zero, List.getD_cons_succ, Is] at hK ⊢
          refine ite_yes (by rfl) ?_
          go_simp
          exact hK _ _ _ rfl (Grew.refl _) rfl
        · intro y w2 hG hD K hK
          simp only [depsH, List.getD_cons_zero, List.getD_cons_succ, Is, and_true] at hD
          have h5 := hD
          clear hD
          simp only [fillL, Act.put, List.setIfInBounds_toArray, List.set_cons_zero, List.set_cons_succ, List.getD_cons_zero, List.getD_cons_succ, Is] at hK ⊢
          rw [h5] at hK ⊢
          clear h5
          refine ite_yes (by rfl) ?_
          go_simp
          exact hK _ _ _ rfl (Grew.refl _) rfl
        · intro y w2 hG hD K hK
          simp only [depsH, List.getD_cons_zero, List.getD_cons_succ, Is, and_true] at hD
          have h6 := hD
          clear hD
          simp only [fillL, Act.put, List.setIfInBounds_toArray, List.set_cons_zero, List.set_cons_succ, List.getD_cons_zero, List.getD_cons_succ, Is] at hK ⊢
          rw [h6] at hK ⊢
          clear h6
          refine ite_yes (by rfl) ?_
          go_simp
          exact hK _ _ _ rfl (Grew.refl _) rfl
        · intro y w2 hG hD K hK
          simp only [depsH, List.getD_cons_zero, List.getD_cons_succ, Is, and_true] at hD
          have h7 := hD
          clear hD
          simp only [fillL, Act.put, List.setIfInBounds_toArray, List.set_cons_zero, List.set_cons_succ, List.getD_cons_zero, List.getD_cons_succ, Is] at hK ⊢
          rw [h7] at hK ⊢
          clear h7
          refine ite_yes (by rfl) ?_
          go_simp
          exact hK _ _ _ rfl (Grew.refl _) (congrArg (Value.int _) (shl_small k4 l4))
        · intro y w2 hG hD K hK
          simp only [fillL, Act.put, List.setIfInBounds_toArray, List.set_cons_zero, List.set_cons_succ, List.getD_cons_zero, List.getD_cons_succ, Is] at hK ⊢
          refine ite_yes (by rfl) ?_
          go_simp
          exact hK _ _ _ rfl (Grew.refl _) rfl
        · intro y w2 hG hD K hK
          simp only [fillL, Act.put, List.setIfInBounds_toArray, List.set_cons_zero, List.set_cons_succ, List.getD_cons_zero, List.getD_cons_succ, Is] at hK ⊢
          refine ite_yes (by rfl) ?_
          go_simp
          exact hK _ _ _ rfl (Grew.refl _) rfl
        · intro y w2 hG hD K hK
          simp only [depsH, List.getD_cons_zero, List.getD_cons_succ, Is, and_true] at hD
          have h9 := hD.1
          have h10 := hD.2
          clear hD
          simp only [fillL, Act.put, List.setIfInBounds_toArray, List.set_cons_zero, List.set_cons_succ, List.getD_cons_zero, List.getD_cons_succ, Is] at hK ⊢
          rw [h9, h10] at hK ⊢
          clear h9 h10
          refine ite_yes (by rfl) ?_
          go_simp
          exact hK _ _ _ rfl (Grew.refl _) rfl
        · intro y w2 hG hD K hK
          simp only [depsH, List.getD_cons_zero, List.getD_cons_succ, Is, and_true] at hD
          have h11 := hD
          clear hD
          simp only [fillL, Act.put, List.setIfInBounds_toArray, List.set_cons_zero, List.set_cons_succ, List.getD_cons_zero, List.getD_cons_succ, Is] at hK ⊢
          rw [h11] at hK ⊢
          clear h11
          refine ite_yes (by rfl) ?_
          go_simp
          exact hK _ _ _ rfl (Grew.refl _) rfl
        · intro y w2 hG hD K hK
          simp only [depsH, List.getD_cons_zero, List.getD_cons_succ, Is, and_true] at hD
          have h4 := hD.1
          have h8 := hD.2.1
          have h12 := hD.2.2
          clear hD
          simp only [fillL, Act.put, List.setIfInBounds_toArray, List.set_cons_zero, List.set_cons_succ, List.getD_cons_zero, List.getD_cons_succ, Is] at hK ⊢
          rw [h4, h8, h12] at hK ⊢
          clear h4 h8 h12
          refine ite_yes (by rfl) ?_
          go_simp
          exact hK _ _ _ rfl (Grew.refl _) rfl
        · intro y w2 hG hF K hK
          simp only [factsH, Is, and_true, Nat.reduceAdd] at hF
          have h0 := hF.1
          have h1 := hF.2.1
          have h2 := hF.2.2.1
          have h3 := hF.2.2.2.1
          have h4 := hF.2.2.2.2.1
          have h5 := hF.2.2.2.2.2.1
          have h6 := hF.2.2.2.2.2.2.1
          have h7 := hF.2.2.2.2.2.2.2.1
          have h8 := hF.2.2.2.2.2.2.2.2.1
          have h9 := hF.2.2.2.2.2.2.2.2.2.1
          have h10 := hF.2.2.2.2.2.2.2.2.2.2.1
          have h11 := hF.2.2.2.2.2.2.2.2.2.2.2.1
          have h12 := hF.2.2.2.2.2.2.2.2.2.2.2.2.1
          have h13 := hF.2.2.2.2.2.2.2.2.2.2.2.2.2
          clear hF
          simp only [lastOf]
          simp only [fillL, Act.put, List.setIfInBounds_toArray, List.set_cons_zero, List.set_cons_succ, List.getD_cons_zero, List.getD_cons_succ, Is] at hK ⊢
          rw [h1, h2, h4, h5, h6, h7, h8, h9, h10, h11, h12, h13]
          clear h1 h2 h4 h5 h6 h7 h8 h9 h10 h11 h12 h13
          refine ite_yes (by rfl) ?_
          have HG2 := Lib.hid (HG.out.trans hG)
          have hrow := hG.heap HROW.out
          have f0 := row_frozen hrow 0
          have f1 := row_frozen hrow 1
          have f2 := row_frozen hrow 2
          have c0 := row_cell hrow 0 _ rfl
          have c1 := row_cell hrow 1 _ rfl
          have c2 := row_cell hrow 2 _ rfl
          clear hrow hG
          go_simp
          refine hK _ _ ?_
          go_wp2
          refine bodyPost_ret (v := vV (kindF k5, shlF k4, rr)) (by simp [results, Try.results24, go_sem, c0, c1, c2, vV]) rfl ⟨by rw [HF.out], ((HG2.out.setCell (Nat.le_succ _) _).setCell (Nat.le_succ _) _).setCell (Nat.le_succ _) _⟩
    · subst k4
      clear HK
      by_cases hn : n < 32768
      · go_wp2
        go_roundw
        case rel => exact ⟨2, rfl, trivial, by show _ ∨ _; omega⟩
        case measure => simp [intOf]
      · have HE : Hid (widF n = 4) := by show _ = _; unfold widF; repeat' split; all_goals omega
        go_wp2_with fail
        refine (bringL_any x0 2 _ (by omega) (by omega)).mono ?_
        rintro r w1 ⟨rfl, rfl⟩
        have m0 : 0 ≤ x0 % 2 := by omega
        have m1 : x0 % 2 < 2 := by omega
        generalize x0 % 2 = m at *
        by_cases e0 : m = 0
        · subst e0
          have HF : Hid (R = (1, 4, n)) := HR.out.trans (by simp [HE.out])
          have hmw : IntKind.u64.wrap n = n := by rw [IntKind.wrap_u64]; omega
          go_wp2_with fail
          refine (num18_any n 4 _).mono ?_
          rintro r w2 ⟨rfl, hg⟩
          have HG2 := Lib.hid (HG.out.trans hg)
          have hrow := hg.heap HROW.out
          have f0 := row_frozen hrow 0
          have f1 := row_frozen hrow 1
          have f2 := row_frozen hrow 2
          have c0 := row_cell hrow 0 _ rfl
          have c1 := row_cell hrow 1 _ rfl
          have c2 := row_cell hrow 2 _ rfl
          clear hrow hg
          go_wp2
          refine bodyPost_ret (v := vV (1, 4, n)) (by simp [results, Try.results24, go_sem, c0, c1, c2, vV]) rfl ⟨by rw [HF.out], ((HG2.out.setCell (Nat.le_succ _) _).setCell (Nat.le_succ _) _).setCell (Nat.le_succ _) _⟩
        have HF : Hid (R = (kindF (n % 5), shlF (n / 5 % 4), n % a)) := HR.out.trans (by rw [if_neg e0])
        go_wp2_with fail
        have b0 : (m == 0) = false := by simpa using e0
        simp only [b0]
        clear b0 e0 m0 m1 HR
        obtain ⟨k5, hk5⟩ : ∃ k : Nat, n % 5 = k := ⟨(n % 5).toNat, by omega⟩
        obtain ⟨k4, hk4⟩ : ∃ k : Nat, n / 5 % 4 = k := ⟨(n / 5 % 4).toNat, by omega⟩
        have l5 : k5 < 5 := by omega
        have l4 : k4 < 4 := by omega
        obtain ⟨q, hq⟩ : ∃ q : Int, n / 5 = q := ⟨_, rfl⟩
        rw [hq] at hk4
        have q0 : 0 ≤ q := by omega
        have q1 : q ≤ 1099511627776 := by omega
        obtain ⟨rr, hrr⟩ : ∃ r : Int, n % a = r := ⟨_, rfl⟩
        have ham0 : ¬ a = 0 := by omega
        replace HF : Hid (R = (kindF k5, shlF k4, rr)) := HF.out.trans (by rw [hk5, hq, hk4, hrr])
        have t5 : n.tmod 5 = (k5 : Int) := by rw [Int.tmod_eq_emod_of_nonneg n0]; exact hk5
        have d5 : n.tdiv 5 = q := by rw [Int.tdiv_eq_ediv_of_nonneg n0]; exact hq
        have t4 : q.tmod 4 = (k4 : Int) := by rw [Int.tmod_eq_emod_of_nonneg q0]; exact hk4
        have tm : n.tmod a = rr := by rw [Int.tmod_eq_emod_of_nonneg n0]; exact hrr
        have r0 : 0 ≤ rr := by rw [← hrr]; exact Int.emod_nonneg _ (by omega)
        have r1 : rr < a := by rw [← hrr]; exact Int.emod_lt_of_pos _ (by omega)
        have qw : IntKind.i64.wrap q = q := by rw [IntKind.wrap_i64]; omega
        have rw1 : IntKind.u64.wrap rr = rr := by rw [IntKind.wrap_u64]; omega
        have i5 : (k5 : Int) < 5 := by omega
        clear hk5 hk4 hq hrr
        refine wp_region_last Grew [[], [], [1], [0, 2], [3], [], [5], [6], [7], [], [], [9, 10], [11], [4, 8, 12], [13]] [[(31, 1), (32, 2), (34, 4), (35, 5), (36, 6), (37, 7), (38, 8), (39, 9), (40, 10), (41, 11), (42, 12), (43, 13)], [(30, 0), (33, 3), (34, 4), (35, 5), (36, 6), (37, 7), (38, 8), (39, 9), (40, 10), (41, 11), (42, 12), (43, 13)], [(30, 0), (31, 1), (34, 4), (35, 5), (36, 6), (37, 7), (38, 8), (39, 9), (40, 10), (41, 11), (42, 12), (43, 13)], [(30, 0), (31, 1), (32, 2), (35, 5), (36, 6), (37, 7), (38, 8), (39, 9), (40, 10), (41, 11), (42, 12), (43, 13)], [(30, 0), (31, 1), (32, 2), (33, 3), (35, 5), (36, 6), (37, 7), (38, 8), (39, 9), (40, 10), (41, 11), (42, 12)], [(30, 0), (31, 1), (32, 2), (33, 3), (34, 4), (37, 7), (38, 8), (39, 9), (40, 10), (41, 11), (42, 12), (43, 13)], [(30, 0), (31, 1), (32, 2), (33, 3), (34, 4), (35, 5), (38, 8), (39, 9), (40, 10), (41, 11), (42, 12), (43, 13)], [(30, 0), (31, 1), (32, 2), (33, 3), (34, 4), (35, 5), (36, 6), (39, 9), (40, 10), (41, 11), (42, 12), (43, 13)], [(30, 0), (31, 1), (32, 2), (33, 3), (34, 4), (35, 5), (36, 6), (37, 7), (39, 9), (40, 10), (41, 11), (42, 12)], [(30, 0), (31, 1), (32, 2), (33, 3), (34, 4), (35, 5), (36, 6), (37, 7), (38, 8), (40, 10), (42, 12), (43, 13)], [(30, 0), (31, 1), (32, 2), (33, 3), (34, 4), (35, 5), (36, 6), (37, 7), (38, 8), (39, 9), (42, 12), (43, 13)], [(30, 0), (31, 1), (32, 2), (33, 3), (34, 4), (35, 5), (36, 6), (37, 7), (38, 8), (39, 9), (40, 10), (43, 13)], [(30, 0), (31, 1), (32, 2), (33, 3), (34, 4), (35, 5), (36, 6), (37, 7), (38, 8), (39, 9), (40, 10), (41, 11)], [(30, 0), (31, 1), (32, 2), (33, 3), (34, 4), (35, 5), (36, 6), (37, 7), (38, 8), (39, 9), (40, 10), (41, 11), (42, 12)], [(30, 0), (31, 1), (32, 2), (33, 3), (34, 4), (35, 5), (36, 6), (37, 7), (38, 8), (39, 9), (40, 10), (41, 11), (42, 12), (43, 13)]]
          [fun v w => ∃ g, v = .slice (some ⟨g, 0, none⟩) 5 5 ∧ w.heap[g]? = some (.cells tabC 3), Is (.int .i64 n), Is (.int .i64 (k5 : Int)), fun v w => ∃ g, v = .pointer (some ⟨g, k5, none⟩) ∧ w.heap[g]? = some (.cells tabC 3), Is (.int .i64 (kindF k5)), Is (.int .i64 n), Is (.int .i64 q), Is (.int .i64 (k4 : Int)), Is (.int .i64 (shlF k4)), Is (.int .i64 n), Is (.int .i64 a), Is (.int .i64 rr), Is (.int .u64 rr), Is (.agg #[.int .i64 (kindF k5), .int .i64 (shlF k4), .int .u64 rr])]
          (by kernel_rfl) Grew.trans Grew.refl (Grew.refl _).drew (by kernel_rfl) ⟨tab_st, is_st, is_st, tabp_st, is_st, is_st, is_st, is_st, is_st, is_st, is_st, is_st, is_st, is_st, trivial⟩ rfl ⟨?_, ?_, ?_, ?_, ?_, ?_, ?_, ?_, ?_, ?_, ?_, ?_, ?_, ?_, trivial⟩ ?_ rfl
        · intro y w2 hG hD K hK
          simp only [fillL, Act.put, List.setIfInBounds_toArray, List.set_cons_zero, List.set_cons_succ, List.getD_cons_zero, List.getD_cons_succ, Is] at hK ⊢
          refine ite_yes (by rfl) ?_
          go_simp
          exact hK _ _ _ rfl ((Grew.refl _).alloc _) ⟨_, rfl, heap_alloc_new _ _⟩
        · intro y w2 hG hD K hK
          simp only [fillL, Act.put, List.setIfInBounds_toArray, List.set_cons_zero, List.set_cons_succ, List.getD_cons_zero, List.getD_cons_succ, Is] at hK ⊢
          refine ite_yes (by rfl) ?_
          go_simp
          exact hK _ _ _ rfl (Grew.refl _) rfl
        · intro y w2 hG hD K hK
          simp only [depsH, List.getD_cons_zero, List.getD_cons_succ, Is, and_true] at hD
          have h1 := hD
          clear hD
          simp only [fillL, Act.put, List.setIfInBounds_toArray, List.set_cons_zero, List.set_cons_succ, List.getD_cons_zero, List.getD_cons_succ, Is] at hK ⊢
          rw [h1] at hK ⊢
          clear h1
          refine ite_yes (by rfl) ?_
          go_simp
          exact hK _ _ _ rfl (Grew.refl _) rfl
        · intro y w2 hG hD K hK
          simp only [depsH, List.getD_cons_zero, List.getD_cons_succ, Is, and_true] at hD
          have h0 := hD.1
          have h2 := hD.2
          clear hD
          simp only [fillL, Act.put, List.setIfInBounds_toArray, List.set_cons_zero, List.set_cons_succ, List.getD_cons_zero, List.getD_cons_succ, Is] at hK ⊢
          rw [h2] at hK ⊢
          clear h2
          refine ite_yes (by rfl) ?_
          refine Exists.elim h0 fun g h => ?_
          have hs := h.1
          have hh := h.2
          clear h h0
          rw [hs] at hK ⊢
          go_simp
          exact hK _ _ _ rfl (Grew.refl _) ⟨g, rfl, hh⟩
        · intro y w2 hG hD K hK
          simp only [depsH, List.getD_cons_zero, List.getD_cons_succ, Is, and_true] at hD
          have h3 := hD
          clear hD
          simp only [fillL, Act.put, List.setIfInBounds_toArray, List.set_cons_zero, List.set_cons_succ, List.getD_cons_zero, List.getD_cons_succ, Is] at hK ⊢
          refine ite_yes (by rfl) ?_
          refine Exists.elim h3 fun g h => ?_
          have hs := h.1
          have hc := row_cell h.2 k5 _ (tab_cell k5 l5)
          clear h h3
          rw [hs] at hK ⊢
          go_simp
          exact hK _ _ _ rfl (Grew.refl _) rfl
        · intro y w2 hG hD K hK
          simp only [fillL, Act.put, List.setIfInBounds_toArray, List.set_cons_zero, List.set_cons_succ, List.getD_cons_zero, List.getD_cons_succ, Is] at hK ⊢
          refine ite_yes (by rfl) ?_
          go_simp
          exact hK _ _ _ rfl (Grew.refl _) rfl
        · intro y w2 hG hD K hK
          simp only [depsH, List.getD_cons_zero, List.getD_cons_succ, Is, and_true] at hD
          have h5 := hD
          clear hD
          simp only [fillL, Act.put, List.setIfInBounds_toArray, List.set_cons_zero, List.set_cons_succ, List.getD_cons_zero, List.getD_cons_succ, Is] at hK ⊢
          rw [h5] at hK ⊢
          clear h5
          refine ite_yes (by rfl) ?_
          go_simp
          exact hK _ _ _ rfl (Grew.refl _) rfl
        · intro y w2 hG hD K hK
          simp only [depsH, List.getD_cons_zero, List.getD_cons_succ, Is, and_true] at hD
          have h6 := hD
          clear hD
          simp only [fillL, Act.put, List.setIfInBounds_toArray, List.set_cons_zero, List.set_cons_succ, List.getD_cons_zero, List.getD_cons_succ, Is] at hK ⊢
          rw [h6] at hK ⊢
          clear h6
          refine ite_yes (by rfl) ?_
          go_simp
          exact hK _ _ _ rfl (Grew.refl _) rfl
        · intro y w2 hG hD K hK
          simp only [depsH, List.getD_cons_zero, List.getD_cons_succ, Is, and_true] at hD
          have h7 := hD
          clear hD
          simp only [fillL, Act.put, List.setIfInBounds_toArray, List.set_cons_zero, List.set_cons_succ, List.getD_cons_zero, List.getD_cons_succ, Is] at hK ⊢
          rw [h7] at hK ⊢
          clear h7
          refine ite_yes (by rfl) ?_
          go_simp
          exact hK _ _ _ rfl (Grew.refl _) (congrArg (Value.int _) (shl_small k4 l4))
        · intro y w2 hG hD K hK
          simp only [fillL, Act.put, List.setIfInBounds_toArray, List.set_cons_zero, List.set_cons_succ, List.getD_cons_zero, List.getD_cons_succ, Is] at hK ⊢
          refine ite_yes (by rfl) ?_
          go_simp
          exact hK _ _ _ rfl (Grew.refl _) rfl
        · intro y w2 hG hD K hK
          simp only [fillL, Act.put, List.setIfInBounds_toArray, List.set_cons_zero, List.set_cons_succ, List.getD_cons_zero, List.getD_cons_succ, Is] at hK ⊢
          refine ite_yes (by rfl) ?_
          go_simp
          exact hK _ _ _ rfl (Grew.refl _) rfl
        · intro y w2 hG hD K hK
          simp only [depsH, List.getD_cons_zero, List.getD_cons_succ, Is, and_true] at hD
          have h9 := hD.1
          have h10 := hD.2
          clear hD
          simp only [fillL, Act.put, List.setIfInBounds_toArray, List.set_cons_zero, List.set_cons_succ, List.getD_cons_zero, List.getD_cons_succ, Is] at hK ⊢
          rw [h9, h10] at hK ⊢
          clear h9 h10
          refine ite_yes (by rfl) ?_
          go_simp
          exact hK _ _ _ rfl (Grew.refl _) rfl
        · intro y w2 hG hD K hK
          simp only [depsH, List.getD_cons_zero, List.getD_cons_succ, Is, and_true] at hD
          have h11 := hD
          clear hD
          simp only [fillL, Act.put, List.setIfInBounds_toArray, List.set_cons_zero, List.set_cons_succ, List.getD_cons_zero, List.getD_cons_succ, Is] at hK ⊢
          rw [h11] at hK ⊢
          clear h11
          refine ite_yes (by rfl) ?_
          go_simp
          exact hK _ _ _ rfl (Grew.refl _) rfl
        · intro y w2 hG hD K hK
          simp only [depsH, List.getD_cons_zero, List.getD_cons_succ, Is, and_true] at hD
          have h4 := hD.1
          have h8 := hD.2.1
          have h12 := hD.2.2
          clear hD
          simp only [fillL, Act.put, List.setIfInBounds_toArray, List.set_cons_zero, List.set_cons_succ, List.getD_cons_zero, List.getD_cons_succ, Is] at hK ⊢
          rw [h4, h8, h12] at hK ⊢
          clear h4 h8 h12
          refine ite_yes (by rfl) ?_
          go_simp
          exact hK _ _ _ rfl (Grew.refl _) rfl
        · intro y w2 hG hF K hK
          simp only [factsH, Is, and_true, Nat.reduceAdd] at hF
          have h0 := hF.1
          have h1 := hF.2.1
          have h2 := hF.2.2.1
          have h3 := hF.2.2.2.1
          have h4 := hF.2.2.2.2.1
          have h5 := hF.2.2.2.2.2.1
          have h6 := hF.2.2.2.2.2.2.1
          have h7 := hF.2.2.2.2.2.2.2.1
          have h8 := hF.2.2.2.2.2.2.2.2.1
          have h9 := hF.2.2.2.2.2.2.2.2.2.1
          have h10 := hF.2.2.2.2.2.2.2.2.2.2.1
          have h11 := hF.2.2.2.2.2.2.2.2.2.2.2.1
          have h12 := hF.2.2.2.2.2.2.2.2.2.2.2.2.1
          have h13 := hF.2.2.2.2.2.2.2.2.2.2.2.2.2
          clear hF
          simp only [lastOf]
          simp only [fillL, Act.put, List.setIfInBounds_toArray, List.set_cons_zero, List.set_cons_succ, List.getD_cons_zero, List.getD_cons_succ, Is] at hK ⊢
          rw [h1, h2, h4, h5, h6, h7, h8, h9, h10, h11, h12, h13]
          clear h1 h2 h4 h5 h6 h7 h8 h9 h10 h11 h12 h13
          refine ite_yes (by rfl) ?_
          have HG2 := Lib.hid (HG.out.trans hG)
          have hrow := hG.heap HROW.out
          have f0 := row_frozen hrow 0
          have f1 := row_frozen hrow 1
          have f2 := row_frozen hrow 2
          have c0 := row_cell hrow 0 _ rfl
          have c1 := row_cell hrow 1 _ rfl
          have c2 := row_cell hrow 2 _ rfl
          clear hrow hG
          go_simp
          refine hK _ _ ?_
          go_wp2
          refine bodyPost_ret (v := vV (kindF k5, shlF k4, rr)) (by simp [results, Try.results24, go_sem, c0, c1, c2, vV]) rfl ⟨by rw [HF.out], ((HG2.out.setCell (Nat.le_succ _) _).setCell (Nat.le_succ _) _).setCell (Nat.le_succ _) _⟩
    · subst k2
      clear HK
      by_cases hn : n < 128
      · go_wp2
        go_roundw
        case rel => exact ⟨1, rfl, trivial, by show _ ∨ _; omega⟩
        case measure => simp [intOf]
      · have HE : Hid (widF n = 2) := by show _ = _; unfold widF; repeat' split; all_goals omega
        go_wp2_with fail
        refine (bringL_any x0 2 _ (by omega) (by omega)).mono ?_
        rintro r w1 ⟨rfl, rfl⟩
        have m0 : 0 ≤ x0 % 2 := by omega
        have m1 : x0 % 2 < 2 := by omega
        generalize x0 % 2 = m at *
        by_cases e0 : m = 0
        · subst e0
          have HF : Hid (R = (1, 2, n)) := HR.out.trans (by simp [HE.out])
          have hmw : IntKind.u64.wrap n = n := by rw [IntKind.wrap_u64]; omega
          go_wp2_with fail
          refine (num18_any n 2 _).mono ?_
          rintro r w2 ⟨rfl, hg⟩
          have HG2 := Lib.hid (HG.out.trans hg)
          have hrow := hg.heap HROW.out
          have f0 := row_frozen hrow 0
          have f1 := row_frozen hrow 1
          have f2 := row_frozen hrow 2
          have c0 := row_cell hrow 0 _ rfl
          have c1 := row_cell hrow 1 _ rfl
          have c2 := row_cell hrow 2 _ rfl
          clear hrow hg
          go_wp2
          refine bodyPost_ret (v := vV (1, 2, n)) (by simp [results, Try.results24, go_sem, c0, c1, c2, vV]) rfl ⟨by rw [HF.out], ((HG2.out.setCell (Nat.le_succ _) _).setCell (Nat.le_succ _) _).setCell (Nat.le_succ _) _⟩
        have HF : Hid (R = (kindF (n % 5), shlF (n / 5 % 4), n % a)) := HR.out.trans (by rw [if_neg e0])
        go_wp2_with fail
        have b0 : (m == 0) = false := by simpa using e0
        simp only [b0]
        clear b0 e0 m0 m1 HR
        obtain ⟨k5, hk5⟩ : ∃ k : Nat, n % 5 = k := ⟨(n % 5).toNat, by omega⟩
        obtain ⟨k4, hk4⟩ : ∃ k : Nat, n / 5 % 4 = k := ⟨(n / 5 % 4).toNat, by omega⟩
        have l5 : k5 < 5 := by omega
        have l4 : k4 < 4 := by omega
        obtain ⟨q, hq⟩ : ∃ q : Int, n / 5 = q := ⟨_, rfl⟩
        rw [hq] at hk4
        have q0 : 0 ≤ q := by omega
        have q1 : q ≤ 1099511627776 := by omega
        obtain ⟨rr, hrr⟩ : ∃ r : Int, n % a = r := ⟨_, rfl⟩
        have ham0 : ¬ a = 0 := by omega
        replace HF : Hid (R = (kindF k5, shlF k4, rr)) := HF.out.trans (by rw [hk5, hq, hk4, hrr])
        have t5 : n.tmod 5 = (k5 : Int) := by rw [Int.tmod_eq_emod_of_nonneg n0]; exact hk5
        have d5 : n.tdiv 5 = q := by rw [Int.tdiv_eq_ediv_of_nonneg n0]; exact hq
        have t4 : q.tmod 4 = (k4 : Int) := by rw [Int.tmod_eq_emod_of_nonneg q0]; exact hk4
        have tm : n.tmod a = rr := by rw [Int.tmod_eq_emod_of_nonneg n0]; exact hrr
        have r0 : 0 ≤ rr := by rw [← hrr]; exact Int.emod_nonneg _ (by omega)
        have r1 : rr < a := by rw [← hrr]; exact Int.emod_lt_of_pos _ (by omega)
        have qw : IntKind.i64.wrap q = q := by rw [IntKind.wrap_i64]; omega
        have rw1 : IntKind.u64.wrap rr = rr := by rw [IntKind.wrap_u64]; omega
        have i5 : (k5 : Int) < 5 := by omega
        clear hk5 hk4 hq hrr
        refine wp_region_last Grew [[], [], [1], [0, 2], [3], [], [5], [6], [7], [], [], [9, 10], [11], [4, 8, 12], [13]] [[(31, 1), (32, 2), (34, 4), (35, 5), (36, 6), (37, 7), (38, 8), (39, 9), (40, 10), (41, 11), (42, 12), (43, 13)], [(30, 0), (33, 3), (34, 4), (35, 5), (36, 6), (37, 7), (38, 8), (39, 9), (40, 10), (41, 11), (42, 12), (43, 13)], [(30, 0), (31, 1), (34, 4), (35, 5), (36, 6), (37, 7), (38, 8), (39, 9), (40, 10), (41, 11), (42, 12), (43, 13)], [(30, 0), (31, 1), (32, 2), (35, 5), (36, 6), (37, 7), (38, 8), (39, 9), (40, 10), (41, 11), (42, 12), (43, 13)], [(30, 0), (31, 1), (32, 2), (33, 3), (35, 5), (36, 6), (37, 7), (38, 8), (39, 9), (40, 10), (41, 11), (42, 12)], [(30, 0), (31, 1), (32, 2), (33, 3), (34, 4), (37, 7), (38, 8), (39, 9), (40, 10), (41, 11), (42, 12), (43, 13)], [(30, 0), (31, 1), (32, 2), (33, 3), (34, 4), (35, 5), (38, 8), (39, 9), (40, 10), (41, 11), (42, 12), (43, 13)], [(30, 0), (31, 1), (32, 2), (33, 3), (34, 4), (35, 5), (36, 6), (39, 9), (40, 10), (41, 11), (42, 12), (43, 13)], [(30, 0), (31, 1), (32, 2), (33, 3), (34, 4), (35, 5), (36, 6), (37, 7), (39, 9), (40, 10), (41, 11), (42, 12)], [(30, 0), (31, 1), (32, 2), (33, 3), (34, 4), (35, 5), (36, 6), (37, 7), (38, 8), (40, 10), (42, 12), (43, 13)], [(30, 0), (31, 1), (32, 2), (33, 3), (34, 4), (35, 5), (36, 6), (37, 7), (38, 8), (39, 9), (42, 12), (43, 13)], [(30, 0), (31, 1), (32, 2), (33, 3), (34, 4), (35, 5), (36, 6), (37, 7), (38, 8), (39, 9), (40, 10), (43, 13)], [(30, 0), (31, 1), (32, 2), (33, 3), (34, 4), (35, 5), (36, 6), (37, 7), (38, 8), (39, 9), (40, 10), (41, 11)], [(30, 0), (31, 1), (32, 2), (33, 3), (34, 4), (35, 5), (36, 6), (37, 7), (38, 8), (39, 9), (40, 10), (41, 11), (42, 12)], [(30, 0), (31, 1), (32, 2), (33, 3), (34, 4), (35, 5), (36, 6), (37, 7), (38, 8), (39, 9), (40, 10), (41, 11), (42, 12), (43, 13)]]
          [fun v w => ∃ g, v = .slice (some ⟨g, 0, none⟩) 5 5 ∧ w.heap[g]? = some (.cells tabC 3), Is (.int .i64 n), Is (.int .i64 (k5 : Int)), fun v w => ∃ g, v = .pointer (some ⟨g, k5, none⟩) ∧ w.heap[g]? = some (.cells tabC 3), Is (.int .i64 (kindF k5)), Is (.int .i64 n), Is (.int .i64 q), Is (.int .i64 (k4 : Int)), Is (.int .i64 (shlF k4)), Is (.int .i64 n), Is (.int .i64 a), Is (.int .i64 rr), Is (.int .u64 rr), Is (.agg #[.int .i64 (kindF k5), .int .i64 (shlF k4), .int .u64 rr])]
          (by kernel_rfl) Grew.trans Grew.refl (Grew.refl _).drew (by kernel_rfl) ⟨tab_st, is_st, is_st, tabp_st, is_st, is_st, is_st, is_st, is_st, is_st, is_st, is_st, is_st, is_st, trivial⟩ rfl ⟨?_, ?_, ?_, ?_, ?_, ?_, ?_, ?_, ?_, ?_, ?_, ?_, ?_, ?_, trivial⟩ ?_ rfl
        · intro y w2 hG hD K hK
          simp only [fillL, Act.put, List.setIfInBounds_toArray, List.set_cons_zero, List.set_cons_succ, List.getD_cons_zero, List.getD_cons_succ, Is] at hK ⊢
          refine ite_yes (by rfl) ?_
          go_simp
          exact hK _ _ _ rfl ((Grew.refl _).alloc _) ⟨_, rfl, heap_alloc_new _ _⟩
        · intro y w2 hG hD K hK
          simp only [fillL, Act.put, List.setIfInBounds_toArray, List.set_cons_zero, List.set_cons_succ, List.getD_cons_zero, List.getD_cons_succ, Is] at hK ⊢
          refine ite_yes (by rfl) ?_
          go_simp
          exact hK _ _ _ rfl (Grew.refl _) rfl
        · intro y w2 hG hD K hK
          simp only [depsH, List.getD_cons_zero, List.getD_cons_succ, Is, and_true] at hD
          have h1 := hD
          clear hD
          simp only [fillL, Act.put, List.setIfInBounds_toArray, List.set_cons_zero, List.set_cons_succ, List.getD_cons_zero, List.getD_cons_succ, Is] at hK ⊢
          rw [h1] at hK ⊢
          clear h1
          refine ite_yes (by rfl) ?_
          go_simp
          exact hK _ _ _ rfl (Grew.refl _) rfl
        · intro y w2 hG hD K hK
          simp only [depsH, List.getD_cons_zero, List.getD_cons_succ, Is, and_true] at hD
          have h0 := hD.1
          have h2 := hD.2
          clear hD
          simp only [fillL, Act.put, List.setIfInBounds_toArray, List.set_cons_zero, List.set_cons_succ, List.getD_cons_zero, List.getD_cons_succ, Is] at hK ⊢
          rw [h2] at hK ⊢
          clear h2
          refine ite_yes (by rfl) ?_
          refine Exists.elim h0 fun g h => ?_
          have hs := h.1
          have hh := h.2
          clear h h0
          rw [hs] at hK ⊢
          go_simp
          exact hK _ _ _ rfl (Grew.refl _) ⟨g, rfl, hh⟩
        · intro y w2 hG hD K hK
          simp only [depsH, List.getD_cons_zero, List.getD_cons_succ, Is, and_true] at hD
          have h3 := hD
          clear hD
          simp only [fillL, Act.put, List.setIfInBounds_toArray, List.set_cons_zero, List.set_cons_succ, List.getD_cons_zero, List.getD_cons_succ, Is] at hK ⊢
          refine ite_yes (by rfl) ?_
          refine Exists.elim h3 fun g h => ?_
          have hs := h.1
          have hc := row_cell h.2 k5 _ (tab_cell k5 l5)
          clear h h3
          rw [hs] at hK ⊢
          go_simp
          exact hK _ _ _ rfl (Grew.refl _) rfl
        · intro y w2 hG hD K hK
          simp only [fillL, Act.put, List.setIfInBounds_toArray, List.set_cons_zero, List.set_cons_succ, List.getD_cons_zero, List.getD_cons_succ, Is] at hK ⊢
          refine ite_yes (by rfl) ?_
          go_simp
          exact hK _ _ _ rfl (Grew.refl _) rfl
        · intro y w2 hG hD K hK
          simp only [depsH, List.getD_cons_zero, List.getD_cons_succ, Is, and_true] at hD
          have h5 := hD
          clear hD
          simp only [fillL, Act.put, List.setIfInBounds_toArray, List.set_cons_zero, List.set_cons_succ, List.getD_cons_zero, List.getD_cons_succ, Is] at hK ⊢
          rw [h5] at hK ⊢
          clear h5
          refine ite_yes (by rfl) ?_
          go_simp
          exact hK _ _ _ rfl (Grew.refl _) rfl
        · intro y w2 hG hD K hK
          simp only [depsH, List.getD_cons_zero, List.getD_cons_succ, Is, and_true] at hD
          have h6 := hD
          clear hD
          simp only [fillL, Act.put, List.setIfInBounds_toArray, List.set_cons_zero, List.set_cons_succ, List.getD_cons_zero, List.getD_cons_succ, Is] at hK ⊢
          rw [h6] at hK ⊢
          clear h6
          refine ite_yes (by rfl) ?_
          go_simp
          exact hK _ _ _ rfl (Grew.refl _) rfl
        · intro y w2 hG hD K hK
          simp only [depsH, List.getD_cons_zero, List.getD_cons_succ, Is, and_true] at hD
          have h7 := hD
          clear hD
          simp only [fillL, Act.put, List.setIfInBounds_toArray, List.set_cons_zero, List.set_cons_succ, List.getD_cons_zero, List.getD_cons_succ, Is] at hK ⊢
          rw [h7] at hK ⊢
          clear h7
          refine ite_yes (by rfl) ?_
          go_simp
          exact hK _ _ _ rfl (Grew.refl _) (congrArg (Value.int _) (shl_small k4 l4))
        · intro y w2 hG hD K hK
          simp only [fillL, Act.put, List.setIfInBounds_toArray, List.set_cons_zero, List.set_cons_succ, List.getD_cons_zero, List.getD_cons_succ, Is] at hK ⊢
          refine ite_yes (by rfl) ?_
          go_simp
          exact hK _ _ _ rfl (Grew.refl _) rfl
        · intro y w2 hG hD K hK
          simp only [fillL, Act.put, List.setIfInBounds_toArray, List.set_cons_zero, List.set_cons_succ, List.getD_cons_zero, List.getD_cons_succ, Is] at hK ⊢
          refine ite_yes (by rfl) ?_
          go_simp
          exact hK _ _ _ rfl (Grew.refl _) rfl
        · intro y w2 hG hD K hK
          simp only [depsH, List.getD_cons_zero, List.getD_cons_succ, Is, and_true] at hD
          have h9 := hD.1
          have h10 := hD.2
          clear hD
          simp only [fillL, Act.put, List.setIfInBounds_toArray, List.set_cons_zero, List.set_cons_succ, List.getD_cons_zero, List.getD_cons_succ, Is] at hK ⊢
          rw [h9, h10] at hK ⊢
          clear h9 h10
          refine ite_yes (by rfl) ?_
          go_simp
          exact hK _ _ _ rfl (Grew.refl _) rfl
        · intro y w2 hG hD K hK
          simp only [depsH, List.getD_cons_zero, List.getD_cons_succ, Is, and_true] at hD
          have h11 := hD
          clear hD
          simp only [fillL, Act.put, List.setIfInBounds_toArray, List.set_cons_zero, List.set_cons_succ, List.getD_cons_zero, List.getD_cons_succ, Is] at hK ⊢
          rw [h11] at hK ⊢
          clear h11
          refine ite_yes (by rfl) ?_
          go_simp
          exact hK _ _ _ rfl (Grew.refl _) rfl
        · intro y w2 hG hD K hK
          simp only [depsH, List.getD_cons_zero, List.getD_cons_succ, Is, and_true] at hD
          have h4 := hD.1
          have h8 := hD.2.1
          have h12 := hD.2.2
          clear hD
          simp only [fillL, Act.put, List.setIfInBounds_toArray, List.set_cons_zero, List.set_cons_succ, List.getD_cons_zero, List.getD_cons_succ, Is] at hK ⊢
          rw [h4, h8, h12] at hK ⊢
          clear h4 h8 h12
          refine ite_yes (by rfl) ?_
          go_simp
          exact hK _ _ _ rfl (Grew.refl _) rfl
        · intro y w2 hG hF K hK
          simp only [factsH, Is, and_true, Nat.reduceAdd] at hF
          have h0 := hF.1
          have h1 := hF.2.1
          have h2 := hF.2.2.1
          have h3 := hF.2.2.2.1
          have h4 := hF.2.2.2.2.1
          have h5 := hF.2.2.2.2.2.1
          have h6 := hF.2.2.2.2.2.2.1
          have h7 := hF.2.2.2.2.2.2.2.1
          have h8 := hF.2.2.2.2.2.2.2.2.1
          have h9 := hF.2.2.2.2.2.2.2.2.2.1
          have h10 := hF.2.2.2.2.2.2.2.2.2.2.1
          have h11 := hF.2.2.2.2.2.2.2.2.2.2.2.1
          have h12 := hF.2.2.2.2.2.2.2.2.2.2.2.2.1
          have h13 := hF.2.2.2.2.2.2.2.2.2.2.2.2.2
          clear hF
          simp only [lastOf]
          simp only [fillL, Act.put, List.setIfInBounds_toArray, List.set_cons_zero, List.set_cons_succ, List.getD_cons_zero, List.getD_cons_succ, Is] at hK ⊢
          rw [h1, h2, h4, h5, h6, h7, h8, h9, h10, h11, h12, h13]
          clear h1 h2 h4 h5 h6 h7 h8 h9 h10 h11 h12 h13
          refine ite_yes (by rfl) ?_
          have HG2 := Lib.hid (HG.out.trans hG)
          have hrow := hG.heap HROW.out
          have f0 := row_frozen hrow 0
          have f1 := row_frozen hrow 1
          have f2 := row_frozen hrow 2
          have c0 := row_cell hrow 0 _ rfl
          have c1 := row_cell hrow 1 _ rfl
          have c2 := row_cell hrow 2 _ rfl
          clear hrow hG
          go_simp
          refine hK _ _ ?_
          go_wp2
          refine bodyPost_ret (v := vV (kindF k5, shlF k4, rr)) (by simp [results, Try.results24, go_sem, c0, c1, c2, vV]) rfl ⟨by rw [HF.out], ((HG2.out.setCell (Nat.le_succ _) _).setCell (Nat.le_succ _) _).setCell (Nat.le_succ _) _⟩
    · subst k1
      clear HK
      have HE : Hid (widF n = 1) := by show _ = _; unfold widF; repeat' split; all_goals omega
      go_wp2_with fail
      refine (bringL_any x0 2 _ (by omega) (by omega)).mono ?_
      rintro r w1 ⟨rfl, rfl⟩
      have m0 : 0 ≤ x0 % 2 := by omega
      have m1 : x0 % 2 < 2 := by omega
      generalize x0 % 2 = m at *
      by_cases e0 : m = 0
      · subst e0
        have HF : Hid (R = (1, 1, n)) := HR.out.trans (by simp [HE.out])
        have hmw : IntKind.u64.wrap n = n := by rw [IntKind.wrap_u64]; omega
        go_wp2_with fail
        refine (num18_any n 1 _).mono ?_
        rintro r w2 ⟨rfl, hg⟩
        have HG2 := Lib.hid (HG.out.trans hg)
        have hrow := hg.heap HROW.out
        have f0 := row_frozen hrow 0
        have f1 := row_frozen hrow 1
        have f2 := row_frozen hrow 2
        have c0 := row_cell hrow 0 _ rfl
        have c1 := row_cell hrow 1 _ rfl
        have c2 := row_cell hrow 2 _ rfl
        clear hrow hg
        go_wp2
        refine bodyPost_ret (v := vV (1, 1, n)) (by simp [results, Try.results24, go_sem, c0, c1, c2, vV]) rfl ⟨by rw [HF.out], ((HG2.out.setCell (Nat.le_succ _) _).setCell (Nat.le_succ _) _).setCell (Nat.le_succ _) _⟩
      have HF : Hid (R = (kindF (n % 5), shlF (n / 5 % 4), n % a)) := HR.out.trans (by rw [if_neg e0])
      go_wp2_with fail
      have b0 : (m == 0) = false := by simpa using e0
      simp only [b0]
      clear b0 e0 m0 m1 HR
      obtain ⟨k5, hk5⟩ : ∃ k : Nat, n % 5 = k := ⟨(n % 5).toNat, by omega⟩
      obtain ⟨k4, hk4⟩ : ∃ k : Nat, n / 5 % 4 = k := ⟨(n / 5 % 4).toNat, by omega⟩
      have l5 : k5 < 5 := by omega
      have l4 : k4 < 4 := by omega
      obtain ⟨q, hq⟩ : ∃ q : Int, n / 5 = q := ⟨_, rfl⟩
      rw [hq] at hk4
      have q0 : 0 ≤ q := by omega
      have q1 : q ≤ 1099511627776 := by omega
      obtain ⟨rr, hrr⟩ : ∃ r : Int, n % a = r := ⟨_, rfl⟩
      have ham0 : ¬ a = 0 := by omega
      replace HF : Hid (R = (kindF k5, shlF k4, rr)) := HF.out.trans (by rw [hk5, hq, hk4, hrr])
      have t5 : n.tmod 5 = (k5 : Int) := by rw [Int.tmod_eq_emod_of_nonneg n0]; exact hk5
      have d5 : n.tdiv 5 = q := by rw [Int.tdiv_eq_ediv_of_nonneg n0]; exact hq
      have t4 : q.tmod 4 = (k4 : Int) := by rw [Int.tmod_eq_emod_of_nonneg q0]; exact hk4
      have tm : n.tmod a = rr := by rw [Int.tmod_eq_emod_of_nonneg n0]; exact hrr
      have r0 : 0 ≤ rr := by rw [← hrr]; exact Int.emod_nonneg _ (by omega)
      have r1 : rr < a := by rw [← hrr]; exact Int.emod_lt_of_pos _ (by omega)
      have qw : IntKind.i64.wrap q = q := by rw [IntKind.wrap_i64]; omega
      have rw1 : IntKind.u64.wrap rr = rr := by rw [IntKind.wrap_u64]; omega
      have i5 : (k5 : Int) < 5 := by omega
      clear hk5 hk4 hq hrr
      refine wp_region_last Grew [[], [], [1], [0, 2], [3], [], [5], [6], [7], [], [], [9, 10], [11], [4, 8, 12], [13]] [[(31, 1), (32, 2), (34, 4), (35, 5), (36, 6), (37, 7), (38, 8), (39, 9), (40, 10), (41, 11), (42, 12), (43, 13)], [(30, 0), (33, 3), (34, 4), (35, 5), (36, 6), (37, 7), (38, 8), (39, 9), (40, 10), (41, 11), (42, 12), (43, 13)], [(30, 0), (31, 1), (34, 4), (35, 5), (36, 6), (37, 7), (38, 8), (39, 9), (40, 10), (41, 11), (42, 12), (43, 13)], [(30, 0), (31, 1), (32, 2), (35, 5), (36, 6), (37, 7), (38, 8), (39, 9), (40, 10), (41, 11), (42, 12), (43, 13)], [(30, 0), (31, 1), (32, 2), (33, 3), (35, 5), (36, 6), (37, 7), (38, 8), (39, 9), (40, 10), (41, 11), (42, 12)], [(30, 0), (31, 1), (32, 2), (33, 3), (34, 4), (37, 7), (38, 8), (39, 9), (40, 10), (41, 11), (42, 12), (43, 13)], [(30, 0), (31, 1), (32, 2), (33, 3), (34, 4), (35, 5), (38, 8), (39, 9), (40, 10), (41, 11), (42, 12), (43, 13)], [(30, 0), (31, 1), (32, 2), (33, 3), (34, 4), (35, 5), (36, 6), (39, 9), (40, 10), (41, 11), (42, 12), (43, 13)], [(30, 0), (31, 1), (32, 2), (33, 3), (34, 4), (35, 5), (36, 6), (37, 7), (39, 9), (40, 10), (41, 11), (42, 12)], [(30, 0), (31, 1), (32, 2), (33, 3), (34, 4), (35, 5), (36, 6), (37, 7), (38, 8), (40, 10), (42, 12), (43, 13)], [(30, 0), (31, 1), (32, 2), (33, 3), (34, 4), (35, 5), (36, 6), (37, 7), (38, 8), (39, 9), (42, 12), (43, 13)], [(30, 0), (31, 1), (32, 2), (33, 3), (34, 4), (35, 5), (36, 6), (37, 7), (38, 8), (39, 9), (40, 10), (43, 13)], [(30, 0), (31, 1), (32, 2), (33, 3), (34, 4), (35, 5), (36, 6), (37, 7), (38, 8), (39, 9), (40, 10), (41, 11)], [(30, 0), (31, 1), (32, 2), (33, 3), (34, 4), (35, 5), (36, 6), (37, 7), (38, 8), (39, 9), (40, 10), (41, 11), (42, 12)], [(30, 0), (31, 1), (32, 2), (33, 3), (34, 4), (35, 5), (36, 6), (37, 7), (38, 8), (39, 9), (40, 10), (41, 11), (42, 12), (43, 13)]]
        [fun v w => ∃ g, v = .slice (some ⟨g, 0, none⟩) 5 5 ∧ w.heap[g]? = some (.cells tabC 3), Is (.int .i64 n), Is (.int .i64 (k5 : Int)), fun v w => ∃ g, v = .pointer (some ⟨g, k5, none⟩) ∧ w.heap[g]? = some (.cells tabC 3), Is (.int .i64 (kindF k5)), Is (.int .i64 n), Is (.int .i64 q), Is (.int .i64 (k4 : Int)), Is (.int .i64 (shlF k4)), Is (.int .i64 n), Is (.int .i64 a), Is (.int .i64 rr), Is (.int .u64 rr), Is (.agg #[.int .i64 (kindF k5), .int .i64 (shlF k4), .int .u64 rr])]
        (by kernel_rfl) Grew.trans Grew.refl (Grew.refl _).drew (by kernel_rfl) ⟨tab_st, is_st, is_st, tabp_st, is_st, is_st, is_st, is_st, is_st, is_st, is_st, is_st, is_st, is_st, trivial⟩ rfl ⟨?_, ?_, ?_, ?_, ?_, ?_, ?_, ?_, ?_, ?_, ?_, ?_, ?_, ?_, trivial⟩ ?_ rfl
      · intro y w2 hG hD K hK
        simp only [fillL, Act.put, List.setIfInBounds_toArray, List.set_cons_zero, List.set_cons_succ, List.getD_cons_zero, List.getD_cons_succ, Is] at hK ⊢
        refine ite_yes (by rfl) ?_
        go_simp
        exact hK _ _ _ rfl ((Grew.refl _).alloc _) ⟨_, rfl, heap_alloc_new _ _⟩
      · intro y w2 hG hD K hK
        simp only [fillL, Act.put, List.setIfInBounds_toArray, List.set_cons_zero, List.set_cons_succ, List.getD_cons_zero, List.getD_cons_succ, Is] at hK ⊢
        refine ite_yes (by rfl) ?_
        go_simp
        exact hK _ _ _ rfl (Grew.refl _) rfl
      · intro y w2 hG hD K hK
        simp only [depsH, List.getD_cons_zero, List.getD_cons_succ, Is, and_true] at hD
        have h1 := hD
        clear hD
        simp only [fillL, Act.put, List.setIfInBounds_toArray, List.set_cons_zero, List.set_cons_succ, List.getD_cons_zero, List.getD_cons_succ, Is] at hK ⊢
        rw [h1] at hK ⊢
        clear h1
        refine ite_yes (by rfl) ?_
        go_simp
        exact hK _ _ _ rfl (Grew.refl _) rfl
      · intro y w2 hG hD K hK
        simp only [depsH, List.getD_cons_zero, List.getD_cons_succ, Is, and_true] at hD
        have h0 := hD.1
        have h2 := hD.2
        clear hD
        simp only [fillL, Act.put, List.setIfInBounds_toArray, List.set_cons_zero, List.set_cons_succ, List.getD_cons_zero, List.getD_cons_succ, Is] at hK ⊢
        rw [h2] at hK ⊢
        clear h2
        refine ite_yes (by rfl) ?_
        refine Exists.elim h0 fun g h => ?_
        have hs := h.1
        have hh := h.2
        clear h h0
        rw [hs] at hK ⊢
        go_simp
        exact hK _ _ _ rfl (Grew.refl _) ⟨g, rfl, hh⟩
      · intro y w2 hG hD K hK
        simp only [depsH, List.getD_cons_zero, List.getD_cons_succ, Is, and_true] at hD
        have h3 := hD
        clear hD
        simp only [fillL, Act.put, List.setIfInBounds_toArray, List.set_cons_zero, List.set_cons_succ, List.getD_cons_zero, List.getD_cons_succ, Is] at hK ⊢
        refine ite_yes (by rfl) ?_
        refine Exists.elim h3 fun g h => ?_
        have hs := h.1
        have hc := row_cell h.2 k5 _ (tab_cell k5 l5)
        clear h h3
        rw [hs] at hK ⊢
        go_simp
        exact hK _ _ _ rfl (Grew.refl _) rfl
      · intro y w2 hG hD K hK
        simp only [fillL, Act.put, List.setIfInBounds_toArray, List.set_cons_zero, List.set_cons_succ, List.getD_cons_zero, List.getD_cons_succ, Is] at hK ⊢
        refine ite_yes (by rfl) ?_
        go_simp
        exact hK _ _ _ rfl (Grew.refl _) rfl
      · intro y w2 hG hD K hK
        simp only [depsH, List.getD_cons_zero, List.getD_cons_succ, Is, and_true] at hD
        have h5 := hD
        clear hD
        simp only [fillL, Act.put, List.setIfInBounds_toArray, List.set_cons_zero, List.set_cons_succ, List.getD_cons_zero, List.getD_cons_succ, Is] at hK ⊢
        rw [h5] at hK ⊢
        clear h5
        refine ite_yes (by rfl) ?_
        go_simp
        exact hK _ _ _ rfl (Grew.refl _) rfl
      · intro y w2 hG hD K hK
        simp only [depsH, List.getD_cons_zero, List.getD_cons_succ, Is, and_true] at hD
        have h6 := hD
        clear hD
        simp only [fillL, Act.put, List.setIfInBounds_toArray, List.set_cons_zero, List.set_cons_succ, List.getD_cons_zero, List.getD_cons_succ, Is] at hK ⊢
        rw [h6] at hK ⊢
        clear h6
        refine ite_yes (by rfl) ?_
        go_simp
        exact hK _ _ _ rfl (Grew.refl _) rfl
      · intro y w2 hG hD K hK
        simp only [depsH, List.getD_cons_zero, List.getD_cons_succ, Is, and_true] at hD
        have h7 := hD
        clear hD
        simp only [fillL, Act.put, List.setIfInBounds_toArray, List.set_cons_zero, List.set_cons_succ, List.getD_cons_zero, List.getD_cons_succ, Is] at hK ⊢
        rw [h7] at hK ⊢
        clear h7
        refine ite_yes (by rfl) ?_
        go_simp
        exact hK _ _ _ rfl (Grew.refl _) (congrArg (Value.int _) (shl_small k4 l4))
      · intro y w2 hG hD K hK
        simp only [fillL, Act.put, List.setIfInBounds_toArray, List.set_cons_zero, List.set_cons_succ, List.getD_cons_zero, List.getD_cons_succ, Is] at hK ⊢
        refine ite_yes (by rfl) ?_
        go_simp
        exact hK _ _ _ rfl (Grew.refl _) rfl
      · intro y w2 hG hD K hK
        simp only [fillL, Act.put, List.setIfInBounds_toArray, List.set_cons_zero, List.set_cons_succ, List.getD_cons_zero, List.getD_cons_succ, Is] at hK ⊢
        refine ite_yes (by rfl) ?_
        go_simp
        exact hK _ _ _ rfl (Grew.refl _) rfl
      · intro y w2 hG hD K hK
        simp only [depsH, List.getD_cons_zero, List.getD_cons_succ, Is, and_true] at hD
        have h9 := hD.1
        have h10 := hD.2
        clear hD
        simp only [fillL, Act.put, List.setIfInBounds_toArray, List.set_cons_zero, List.set_cons_succ, List.getD_cons_zero, List.getD_cons_succ, Is] at hK ⊢
        rw [h9, h10] at hK ⊢
        clear h9 h10
        refine ite_yes (by rfl) ?_
        go_simp
        exact hK _ _ _ rfl (Grew.refl _) rfl
      · intro y w2 hG hD K hK
        simp only [depsH, List.getD_cons_zero, List.getD_cons_succ, Is, and_true] at hD
        have h11 := hD
        clear hD
        simp only [fillL, Act.put, List.setIfInBounds_toArray, List.set_cons_zero, List.set_cons_succ, List.getD_cons_zero, List.getD_cons_succ, Is] at hK ⊢
        rw [h11] at hK ⊢
        clear h11
        refine ite_yes (by rfl) ?_
        go_simp
        exact hK _ _ _ rfl (Grew.refl _) rfl
      · intro y w2 hG hD K hK
        simp only [depsH, List.getD_cons_zero, List.getD_cons_succ, Is, and_true] at hD
        have h4 := hD.1
        have h8 := hD.2.1
        have h12 := hD.2.2
        clear hD
        simp only [fillL, Act.put, List.setIfInBounds_toArray, List.set_cons_zero, List.set_cons_succ, List.getD_cons_zero, List.getD_cons_succ, Is] at hK ⊢
        rw [h4, h8, h12] at hK ⊢
        clear h4 h8 h12
        refine ite_yes (by rfl) ?_
        go_simp
        exact hK _ _ _ rfl (Grew.refl _) rfl
      · intro y w2 hG hF K hK
        simp only [factsH, Is, and_true, Nat.reduceAdd] at hF
        have h0 := hF.1
        have h1 := hF.2.1
        have h2 := hF.2.2.1
        have h3 := hF.2.2.2.1
        have h4 := hF.2.2.2.2.1
        have h5 := hF.2.2.2.2.2.1
        have h6 := hF.2.2.2.2.2.2.1
        have h7 := hF.2.2.2.2.2.2.2.1
        have h8 := hF.2.2.2.2.2.2.2.2.1
        have h9 := hF.2.2.2.2.2.2.2.2.2.1
        have h10 := hF.2.2.2.2.2.2.2.2.2.2.1
        have h11 := hF.2.2.2.2.2.2.2.2.2.2.2.1
        have h12 := hF.2.2.2.2.2.2.2.2.2.2.2.2.1
        have h13 := hF.2.2.2.2.2.2.2.2.2.2.2.2.2
        clear hF
        simp only [lastOf]
        simp only [fillL, Act.put, List.setIfInBounds_toArray, List.set_cons_zero, List.set_cons_succ, List.getD_cons_zero, List.getD_cons_succ, Is] at hK ⊢
        rw [h1, h2, h4, h5, h6, h7, h8, h9, h10, h11, h12, h13]
        clear h1 h2 h4 h5 h6 h7 h8 h9 h10 h11 h12 h13
        refine ite_yes (by rfl) ?_
        have HG2 := Lib.hid (HG.out.trans hG)
        have hrow := hG.heap HROW.out
        have f0 := row_frozen hrow 0
        have f1 := row_frozen hrow 1
        have f2 := row_frozen hrow 2
        have c0 := row_cell hrow 0 _ rfl
        have c1 := row_cell hrow 1 _ rfl
        have c2 := row_cell hrow 2 _ rfl
        clear hrow hG
        go_simp
        refine hK _ _ ?_
        go_wp2
        refine bodyPost_ret (v := vV (kindF k5, shlF k4, rr)) (by simp [results, Try.results24, go_sem, c0, c1, c2, vV]) rfl ⟨by rw [HF.out], ((HG2.out.setCell (Nat.le_succ _) _).setCell (Nat.le_succ _) _).setCell (Nat.le_succ _) _⟩
set_option maxRecDepth 100000 in
set_option maxHeartbeats 1000000 in
theorem values18_any (a : Int) (lv : Value) (l : List (Int × Int)) (w : World) (hp : PairsAt w lv l) (h0 : 1 ≤ a) (h1 : a ≤ 4611686018427387904) (hl : l.length ≤ 9223372036854775807) : Calls Try.prog 8 #[lv, .int .i64 a] w fun r w' => ∃ v', r = .returned v' ∧ OwnVals w' w.heap.size v' (valsM l a) ∧ Grew w w' := by
  obtain ⟨ad, c, rfl, hcell⟩ := hp
  have HC := Lib.hid hcell
  clear hcell
  go_enter Try.func8, Try.ntmps8
  go_wp2_with fail
  go_loopw [5, 6] (fun v i wr => ∃ k : Nat, k ≤ l.length ∧ k ≤ 300 ∧ i = .int .i64 k ∧ Hid (OwnVals wr w.heap.size v (valsM (l.take k) a) ∧ Grew w wr)) (fun _ i _ => l.length - (intOf i).toNat)
  case atStart => exact ⟨0, Nat.zero_le _, by omega, rfl, by
    show _ ∧ _
    exact ⟨World.ownsRow_nil _ _ _ _, Grew.refl _⟩⟩
  case round =>
    obtain ⟨k, hk, hk2, rfl, HW⟩ := hrel
    by_cases hlt : k < l.length
    · by_cases h3 : k < 300
      · obtain ⟨x, hx⟩ : ∃ x, l[k]? = some x := ⟨_, List.getElem?_eq_getElem hlt⟩
        have HSN := Lib.hid (valsM_snoc hx h3 a)
        obtain ⟨b, off, rfl, c0, c1⟩ := HC.out k x hx
        clear hx
        have d0 := HW.out.2.cell c0
        have d1 := HW.out.2.cell c1
        obtain ⟨x0, x1⟩ := x
        simp only at d0 d1
        clear c0 c1
        have h3i : (k : Int) < 300 := by omega
        go_wp2_with fail
        refine (value18_any (x0, x1) a wr h0 h1).mono ?_
        rintro r w2 ⟨rfl, hg⟩
        have HO := Lib.hid (show OwnVals w2 w.heap.size u5 (valsM (l.take k) a) from own_grew HW.out.1 hg)
        have HG := Lib.hid (HW.out.2.trans hg)
        obtain ⟨va, vc, rfl, hvc⟩ := own_form HO.out
        have HLN : Hid ((valsM (l.take k) a).length ≤ 300) := by show _ ≤ _; rw [valsM_length]; omega
        generalize valsM (l.take k) a = L at *
        generalize valM (x0, x1) a = X at *
        obtain ⟨X0, X1, X2⟩ := X
        clear hg HW
        have HO2 : Hid (∀ o, OwnVals (w2.alloc o) w.heap.size (.slice va L.length vc) L) := fun o => own_grew HO.out ((Grew.refl _).alloc o)
        go_wp2_with (at_builtin; refine wpList_appendV rfl _ _ rfl w.heap.size (.slice va L.length vc) L rfl (HO2.out _) _ [(X0, X1, X2)] rfl (vals_new _ _) (fun c h => by cases h) (by have := HLN.out; simp; omega) (Nat.le_trans HG.out.size (by simp)) ?_; intro v' w3 hown hgr hqq; obtain ⟨va2, vc2, rfl, _⟩ := own_form hown; have HG3 := Lib.hid (And.intro hown (grew_own (HO2.out _) (HG.out.alloc _) hgr)); clear hown hgr hqq)
        go_roundw
        case rel =>
          refine ⟨k + 1, by omega, by omega, by go_num, ?_⟩
          show _ ∧ _
          rw [← HSN.out]
          have hh := HG3.out
          rw [List.length_append] at hh
          exact hh
        case measure => simp [intOf]; omega
      · have ek : k = 300 := by omega
        subst ek
        have hw := HW.out
        have HE : Hid (OwnVals wr w.heap.size u5 (valsM l a) ∧ Grew w wr) := by
          show _ ∧ _
          rw [valsM_all] at hw
          exact hw
        clear hw HW
        go_wp2
        go_ret
        exact ⟨_, rfl, HE.out⟩
    · have ek : k = l.length := by omega
      subst ek
      have hw := HW.out
      have HE : Hid (OwnVals wr w.heap.size u5 (valsM l a) ∧ Grew w wr) := by
        show _ ∧ _
        rw [List.take_length] at hw
        exact hw
      clear hw HW
      go_wp2
      all_goals
        go_ret
        exact ⟨_, rfl, HE.out⟩
end Go.Proofs.Ytajpbclcfjljnaa

/-
  The plain law of a map's encoding.
-/
namespace Go.Proofs.Ytajpbclcfjljnaa
open Go Go.ChangeShapes Go.WideShapes Go.ChangeAt Go.RowKit Go.Joins
open Go.Proofs.Ytajpbclcfjljnaa.Ft (V3 vV okV ValsAt inlineB legalB packF codeF typedF allF allAt headF fitsL fitsV fitsF belowW isA)
set_option linter.unusedVariables false
set_option linter.unusedSimpArgs false
def KeyAt (n : Int) (k : V3) : Prop := k.1 = 14 ∧ isW k.2.1 = true ∧ 0 ≤ k.2.2 ∧ k.2.2 ≤ n
theorem checkE_ok {n : Int} {k : V3} {l : List V3} (hk : KeyAt n k) (hl : ∀ v ∈ l, legalE v = 0) : checkE k l = 0 := by
  unfold checkE
  rw [if_pos hk.1, if_pos hk.2.1]
  induction l with
  | nil => rfl
  | cons v r ih =>
    show eachL legalE (if (0 : Int) = 0 then legalE v else 0) r = 0
    rw [if_pos rfl, hl v (by simp)]
    exact ih fun u hu => hl u (by simp [hu])
theorem key_inline {n : Int} {k : V3} (hk : KeyAt n k) : inlineB k.1 = false := by rw [hk.1]; decide
theorem allF_map {n : Int} {k : V3} {l : List V3} (hn : 0 ≤ n) (hn2 : n ≤ 1048576) (hl : l.length ≤ 1048575) (h : ∀ v ∈ l, Near n v) (hk : KeyAt n k) :
    allF l k n 3 = Ft.leastOf (fun v => allAt l k n 3 v) ∧ allF l k n 3 ≠ 0 ∧ isW (allF l k n 3) = true ∧ allAt l k n 3 (allF l k n 3) = true := by
  have hA : isA 3 := by simp [isA]
  have e : allF l k n 3 = Ft.leastOf (fun v => allAt l k n 3 v) := by
    unfold allF
    rw [if_pos ⟨⟨hn, by omega⟩, hA, by omega⟩]
  have p8 : (2 : Int) ^ (8 * (8 : Int).toNat) = 18446744073709551616 := by decide
  have h8 : allAt l k n 3 8 = true := by
    unfold allAt
    rw [fits_near l 3 h hn (by omega) (by omega), Bool.and_true]
    unfold headF
    have hb : belowW l.length 8 = true := by unfold belowW; rw [decide_eq_true_eq, p8]; omega
    have hkf : fitsV k n 0 8 = true := by
      unfold fitsV fitsF
      rw [key_inline hk]
      simp only [Bool.false_eq_true, if_false, Bool.and_eq_true, decide_eq_true_eq, belowW, p8]
      obtain ⟨_, _, h0, h1⟩ := hk
      exact ⟨h1, by omega⟩
    rw [hb, hkf]
    simp
  have h0 : allF l k n 3 ≠ 0 := by rw [e]; exact leastOf_ok h8
  refine ⟨e, h0, allF_isW h0, ?_⟩
  have := leastOf_holds (p := fun v => allAt l k n 3 v) (by rw [← e]; exact h0)
  rw [← e] at this
  exact this
def piecesM (x : Int) (k : V3) (b : List UInt8) (l : List V3) : List (List UInt8) :=
  zeros (padN b x) :: digB x.toNat ((b.length : Int) + padN b x - k.2.2).toNat :: digB x.toNat k.2.1.toNat :: digB x.toNat l.length :: (encL x ((b.length : Int) + padN b x + 3 * x) l ++ l.map fun v => [tagB x v])
def lenM (x : Int) (b : List UInt8) (l : List V3) : Int := b.length + padN b x + 3 * x + x * l.length + l.length
theorem length_piecesM {x : Int} (hx : isW x = true) (k : V3) (b : List UInt8) (l : List V3) : (b.length : Int) + (piecesM x k b l).flatten.length = lenM x b l := by
  have h1 := length_encL hx l ((b.length : Int) + padN b x + 3 * x)
  have h2 := length_tags x l
  have hp := isW_pos hx
  unfold piecesM lenM
  simp only [List.flatten_append, List.flatten_cons, List.length_append, length_zeros, length_digB] at h1 ⊢
  omega
theorem lenM_le {x : Int} (hx : isW x = true) (b : List UInt8) (l : List V3) : lenM x b l ≤ b.length + 31 + 9 * l.length := by
  have hw := isW_pos hx
  have hp := (padN_lt (l := b) hx).1
  have hm : x * (l.length : Int) ≤ 8 * l.length := Int.mul_le_mul_of_nonneg_right hw.2 (by omega)
  unfold lenM
  omega
theorem map_fits {n x : Int} {k : V3} {l : List V3} (hx : isW x = true) (hk : KeyAt n k) (h : allAt l k n 3 x = true) :
    (l.length : Int) < 2 ^ (8 * x.toNat) ∧ (0 ≤ (n + x - 1) / x * x - k.2.2 ∧ (n + x - 1) / x * x - k.2.2 < 2 ^ (8 * x.toNat)) ∧ fitsL l n 3 x = true := by
  unfold allAt headF at h
  simp only [Bool.and_eq_true, Bool.or_eq_true, belowW, decide_eq_true_eq] at h
  obtain ⟨⟨h1, h2⟩, h3⟩ := h
  have h4 : fitsV k n 0 x = true := by simpa using h2
  unfold fitsV fitsF at h4
  rw [key_inline hk] at h4
  simp only [Bool.false_eq_true, if_false, Bool.and_eq_true, decide_eq_true_eq, belowW, Int.zero_mul, Int.add_zero] at h4
  have hge : n ≤ (n + x - 1) / x * x := by rcases isW_cases hx with rfl | rfl | rfl | rfl <;> omega
  exact ⟨by simpa using h1, ⟨by omega, h4.2⟩, h3⟩
theorem putM_ok {most : Int} {k : V3} {b : List UInt8} {l : List V3} {x : Int} (hb : b.length ≤ 1048576) (hl : l.length ≤ 1048575) (h : ∀ v ∈ l, Near b.length v) (hk : KeyAt b.length k) (hx : allF l k b.length 3 = x) (hr : lenM x b l ≤ most) :
    putM most k l (b, 0) = (((9, x, (b.length : Int) + padN b x + 3 * x), 0), (b ++ (piecesM x k b l).flatten, 0)) := by
  obtain ⟨_, x0, hw, hall⟩ := allF_map (n := b.length) (by omega) (by omega) hl h hk
  rw [hx] at x0 hw hall
  have hwp := isW_pos hw
  have hpe := pad_eq hw b
  obtain ⟨hlen, hko, hfit⟩ := map_fits hw hk hall
  rw [← hpe] at hko
  have hk8 : k.2.1 < 2 ^ (8 * x.toNat) := by
    have h1 := isW_pos hk.2.1
    have h2 : (256 : Int) ≤ 2 ^ (8 * x.toNat) := by rcases isW_cases hw with rfl | rfl | rfl | rfl <;> decide
    omega
  have hfe : fitE x ((b.length : Int) + padN b x + 3 * x) l := fitE_of hw l 3 _ (by rw [hpe]) (by omega) hfit
  have hpl := length_piecesM hw k b l
  have hmul : 0 ≤ x * (l.length : Int) := Int.mul_nonneg (by omega) (by omega)
  have hkn : ¬ inlineB k.1 = true := by rw [key_inline hk]; decide
  unfold putM
  rw [if_neg (by rw [checkE_ok hk (legal_vals h)]; simp)]
  simp only [hx]
  rw [if_neg x0]
  have e1 : alignS most x (b, 0) = (b ++ zeros (padN b x), 0) := by
    unfold alignS
    rw [if_pos hw]
    exact put_fit _ _ _ (by rw [length_zeros]; show (b.length : Int) + (padN b x : Nat) ≤ most; unfold lenM at hr; omega)
  have hl1 : ((b ++ zeros (padN b x)).length : Int) = (b.length : Int) + padN b x := by rw [List.length_append, length_zeros]; omega
  have e2 : elemS most x (alignS most x (b, 0)) k = (b ++ zeros (padN b x) ++ digB x.toNat ((b.length : Int) + padN b x - k.2.2).toNat, 0) := by
    rw [e1, elemS_put hw (by unfold encN; rw [if_neg hkn, hl1]; exact hko)]
    unfold encN
    rw [if_neg hkn, hl1]
    exact put_fit _ _ _ (by simp only [List.length_append, length_digB, length_zeros]; unfold lenM at hr; omega)
  have e3 : headM most x k l.length (b, 0) = (b ++ zeros (padN b x) ++ digB x.toNat ((b.length : Int) + padN b x - k.2.2).toNat ++ digB x.toNat k.2.1.toNat ++ digB x.toNat l.length, 0) := by
    unfold headM
    rw [e2, numS_put hw hk8, put_fit _ _ _ (by simp only [List.length_append, length_digB, length_zeros]; unfold lenM at hr; omega), numS_put hw hlen]
    exact put_fit _ _ _ (by simp only [List.length_append, length_digB, length_zeros]; unfold lenM at hr; omega)
  have hl3 : ((b ++ zeros (padN b x) ++ digB x.toNat ((b.length : Int) + padN b x - k.2.2).toNat ++ digB x.toNat k.2.1.toNat ++ digB x.toNat l.length).length : Int) = (b.length : Int) + padN b x + 3 * x := by
    simp only [List.length_append, length_digB, length_zeros]; omega
  have e4 : tagsS most x l (elemsS most x l (headM most x k l.length (b, 0))) = (b ++ (piecesM x k b l).flatten, 0) := by
    rw [e3, elemsS_chain hw l _ (by rw [hl3]; exact hfe), hl3, tagsS_chain, ← chain_append]
    have hfl : (b ++ zeros (padN b x) ++ digB x.toNat ((b.length : Int) + padN b x - k.2.2).toNat ++ digB x.toNat k.2.1.toNat ++ digB x.toNat l.length) ++ (encL x ((b.length : Int) + padN b x + 3 * x) l ++ l.map fun v => [tagB x v]).flatten = b ++ (piecesM x k b l).flatten := by
      unfold piecesM
      simp only [List.flatten_cons, List.append_assoc]
    rw [chain_fit _ _ (by rw [← Int.natCast_add, ← List.length_append, hfl, List.length_append]; omega), hfl]
  rw [e4, e3]
  simp only [ne_eq, not_true_eq_false, if_false]
  rw [hl3]
end Go.Proofs.Ytajpbclcfjljnaa

/-
  Maps: the law's values are near; half of the least width does not fit.
-/
namespace Go.Proofs.Ytajpbclcfjljnaa
open Go Go.ChangeShapes Go.WideShapes Go.ChangeAt Go.RowKit Go.Joins
open Go.Proofs.Ytajpbclcfjljnaa.Ft (V3 vV okV ValsAt inlineB legalB packF codeF typedF allF allAt headF fitsL fitsV fitsF belowW isA)
set_option linter.unusedVariables false
set_option linter.unusedSimpArgs false
theorem valM_cases (x : Int × Int) (a : Int) (ha : 1 ≤ a) :
    (∃ n : Int, 0 ≤ n ∧ n < 1099511627776 ∧ valM x a = (1, widF n, n)) ∨ (∃ t w u : Int, valM x a = (t, w, u) ∧ legalB t = true ∧ inlineB t = false ∧ isW w = true ∧ 0 ≤ u ∧ u < a) := by
  unfold valM
  have h0 : 0 ≤ x.2 % 1099511627776 := by omega
  have h1 : x.2 % 1099511627776 < 1099511627776 := by omega
  generalize x.2 % 1099511627776 = n at *
  split
  · exact .inl ⟨n, h0, h1, rfl⟩
  · refine .inr ⟨_, _, _, rfl, (far_facts _ (by omega) (by omega)).1, (far_facts _ (by omega) (by omega)).2, shl_isW _ (by omega) (by omega), Int.emod_nonneg _ (by omega), Int.emod_lt_of_pos _ (by omega)⟩
theorem near_valM (x : Int × Int) (a : Int) (ha : 1 ≤ a) (ha2 : a ≤ 1048576) : Near a (valM x a) := by
  rcases valM_cases x a ha with ⟨n, h0, h1, h⟩ | ⟨t, w, u, h, hl, hi, hww, hu0, hu1⟩
  · rw [h]
    exact ⟨legal_of_inline _ _ _ inl_1 (by decide), ⟨by show 0 ≤ n; omega, by show n ≤ _; omega⟩, fun _ => widF_le n, fun h => absurd inl_1 (by rw [show inlineB 1 = false from h]; decide)⟩
  · rw [h]
    refine ⟨?_, ⟨hu0, by show u ≤ _; omega⟩, fun h => ?_, fun _ => by show u ≤ a; omega⟩
    · unfold legalE
      rw [if_pos hl]
      simp only [hi, hww, Bool.false_eq_true, if_false, if_true]
    · rw [show inlineB t = true from h] at hi; cases hi
theorem near_valsM (l : List (Int × Int)) (a : Int) (ha : 1 ≤ a) (ha2 : a ≤ 1048576) : ∀ v ∈ valsM l a, Near a v := by
  intro v hv
  obtain ⟨x, _, rfl⟩ := List.mem_map.1 hv
  exact near_valM x a ha ha2
def tightAtM (h bg : Int) (i : Nat) (v : V3) : Prop := (inlineB v.1 = true ∧ h < v.2.1) ∨ (inlineB v.1 = false ∧ 2 ^ (8 * h.toNat) ≤ bg + (i + 3) * h - v.2.2)
theorem half_tightM {n : Int} {k : V3} {l : List V3} {x h : Int} (hn : 0 ≤ n) (hn2 : n ≤ 1048576) (hl : l.length ≤ 1048575) (hN : ∀ v ∈ l, Near n v) (hk : KeyAt n k) (hx : allF l k n 3 = x) (hh : x = 2 * h) (h1 : 1 ≤ h) :
    (2 : Int) ^ (8 * h.toNat) ≤ l.length ∨ (2 : Int) ^ (8 * h.toNat) ≤ (n + h - 1) / h * h - k.2.2 ∨ ∃ (i : Nat) (v : V3), l[i]? = some v ∧ tightAtM h ((n + h - 1) / h * h) i v := by
  obtain ⟨e, x0, hw, hall⟩ := allF_map hn hn2 hl hN hk
  have hf : allAt l k n 3 h = false := by
    rw [hx] at e
    rw [hx] at hw
    have hc := isW_cases hw
    cases hp1 : allAt l k n 3 1 with
    | true => have : Ft.leastOf (fun v => allAt l k n 3 v) = 1 := by unfold Ft.leastOf; simp [hp1]
              omega
    | false =>
      cases hp2 : allAt l k n 3 2 with
      | true => have : Ft.leastOf (fun v => allAt l k n 3 v) = 2 := by unfold Ft.leastOf; simp [hp1, hp2]
                have : h = 1 := by omega
                rw [this]; exact hp1
      | false =>
        cases hp4 : allAt l k n 3 4 with
        | true => have : Ft.leastOf (fun v => allAt l k n 3 v) = 4 := by unfold Ft.leastOf; simp [hp1, hp2, hp4]
                  have : h = 2 := by omega
                  rw [this]; exact hp2
        | false =>
          rcases (show h = 1 ∨ h = 2 ∨ h = 4 by omega) with rfl | rfl | rfl
          · exact hp1
          · exact hp2
          · exact hp4
  unfold allAt at hf
  rw [Bool.and_eq_false_iff] at hf
  rcases hf with hf | hf
  · unfold headF at hf
    rw [Bool.and_eq_false_iff] at hf
    rcases hf with hf | hf
    · left
      unfold belowW at hf
      simp at hf
      exact hf
    · right; left
      have h4 : fitsV k n 0 h = false := by simpa using hf
      unfold fitsV fitsF at h4
      rw [key_inline hk] at h4
      simp only [Bool.false_eq_true, if_false, belowW, Bool.and_eq_false_iff, decide_eq_false_iff_not, Int.zero_mul, Int.add_zero] at h4
      have := hk.2.2.2
      rcases h4 with h4 | h4
      · omega
      · omega
  · right; right
    obtain ⟨j, v, hj, hv⟩ := fitsL_false _ _ _ _ hf
    refine ⟨j, v, hj, ?_⟩
    have hNv := hN v (List.mem_of_getElem? hj)
    unfold fitsV fitsF at hv
    unfold tightAtM
    cases hi : inlineB v.1 with
    | true =>
      rw [hi] at hv
      simp at hv
      exact .inl ⟨rfl, hv⟩
    | false =>
      rw [hi] at hv
      have := hNv.2.2.2 hi
      simp only [Bool.false_eq_true, if_false, belowW, Bool.and_eq_false_iff, decide_eq_false_iff_not] at hv
      refine .inr ⟨rfl, ?_⟩
      rcases hv with hv | hv
      · omega
      · rw [show ((j : Int) + 3) * h = (3 + j) * h by rw [Int.add_comm]]
        omega
def tightToM (h bg : Int) (T0 : Prop) (L : List V3) (k : Nat) (tb : Bool) : Prop := tb = true ↔ (T0 ∨ ∃ j : Nat, j < k ∧ ∃ v, L[j]? = some v ∧ tightAtM h bg j v)
theorem tightToM.step {h bg : Int} {T0 : Prop} {L : List V3} {k : Nat} {tb : Bool} {v : V3} (hv : L[k]? = some v) (nb : Bool) (hnb : nb = true ↔ tightAtM h bg k v) (ht : tightToM h bg T0 L k tb) : tightToM h bg T0 L (k + 1) (tb || nb) := by
  unfold tightToM at *
  rw [Bool.or_eq_true, ht, hnb]
  constructor
  · rintro ((h | ⟨j, h1, u, h2, h3⟩) | h)
    · exact .inl h
    · exact .inr ⟨j, by omega, u, h2, h3⟩
    · exact .inr ⟨k, by omega, v, hv, h⟩
  · rintro (h | ⟨j, h1, u, h2, h3⟩)
    · exact .inl (.inl h)
    · by_cases e : j = k
      · subst e
        rw [hv] at h2
        cases h2
        exact .inr h3
      · exact .inl (.inr ⟨j, by omega, u, h2, h3⟩)
theorem tightToM.zero (h bg : Int) (T0 : Prop) (L : List V3) (tb : Bool) (hb : tb = true ↔ T0) : tightToM h bg T0 L 0 tb := by
  unfold tightToM
  rw [hb]
  exact ⟨fun h => .inl h, fun h => by
    rcases h with h | ⟨j, h, _⟩
    · exact h
    · omega⟩
theorem tightM_far {h bg : Int} {k : Nat} {ty wd vn : Int} (hi : inlineB ty = false) (P : Int) (hP : P = 2 ^ (8 * h.toNat)) (E : Int) (hE : E = bg + (k + 3) * h - vn) : (decide (P ≤ E) = true ↔ tightAtM h bg k (ty, wd, vn)) := by
  rw [decide_eq_true_eq, hP, hE]
  unfold tightAtM
  exact ⟨fun h => .inr ⟨hi, h⟩, fun h => by
    rcases h with h | h
    · rw [show inlineB ty = true from h.1] at hi; cases hi
    · exact h.2⟩
end Go.Proofs.Ytajpbclcfjljnaa

/-
  Maps: what is read back of the encoding.
-/
namespace Go.Proofs.Ytajpbclcfjljnaa
open Go Go.ChangeShapes Go.WideShapes Go.ChangeAt Go.RowKit Go.Joins
open Go.Proofs.Ytajpbclcfjljnaa.Ft (V3 vV okV ValsAt inlineB legalB packF codeF typedF allF allAt headF fitsL fitsV fitsF belowW isA unpackF)
set_option linter.unusedVariables false
set_option linter.unusedSimpArgs false
structure HeldM (x p : Int) (k : V3) (b X : List UInt8) (l : List V3) : Prop where
  head : X.take b.length = b
  len : (X.length : Int) = p + x * l.length + l.length
  off : loadF X (p - 3 * x) x = (p - 3 * x - k.2.2, 0)
  wide : loadF X (p - 2 * x) x = (k.2.1, 0)
  many : loadF X (p - x) x = ((l.length : Int), 0)
  elem : ∀ (j : Nat) (v : V3), l[j]? = some v → loadF X (p + j * x) x = (encN x (p + j * x) v, 0)
  tag : ∀ (j : Nat) (v : V3), l[j]? = some v → X[(p + l.length * x).toNat + j]? = some (tagB x v)
theorem heldM {b : List UInt8} {k : V3} {l : List V3} {x p : Int} (hn : b.length ≤ 1048576) (hl : l.length ≤ 1048575) (h : ∀ v ∈ l, Near b.length v) (hk : KeyAt b.length k) (hx : allF l k b.length 3 = x) (hp : (b.length : Int) + padN b x + 3 * x = p) :
    isW x = true ∧ HeldM x p k b (b ++ (piecesM x k b l).flatten) l ∧ (p - 3 * x) % x = 0 ∧ (b.length : Int) ≤ p - 3 * x ∧ p - 3 * x < b.length + x ∧ (∀ v ∈ l, inlineB v.1 = true → v.2.1 ≤ x) ∧ k.2.2 ≤ p - 3 * x := by
  obtain ⟨_, x0, hw, hall⟩ := allF_map (n := b.length) (by omega) (by omega) hl h hk
  rw [hx] at hw hall
  have hwp := isW_pos hw
  obtain ⟨hlen, hko, hfit⟩ := map_fits hw hk hall
  have hpad := padN_lt (l := b) hw
  have hpe := pad_eq hw b
  rw [← hpe] at hko
  have hk8 : k.2.1 < 2 ^ (8 * x.toNat) := by
    have h1 := isW_pos hk.2.1
    have h2 : (256 : Int) ≤ 2 ^ (8 * x.toNat) := by rcases isW_cases hw with rfl | rfl | rfl | rfl <;> decide
    omega
  have hkp := isW_pos hk.2.1
  have hfe : fitE x p l := fitE_of hw l 3 p (by rw [← hp, hpe]) (by omega) hfit
  have hEl := length_encL hw l p
  have hpieces : (piecesM x k b l).flatten = zeros (padN b x) ++ digB x.toNat (p - 3 * x - k.2.2).toNat ++ digB x.toNat k.2.1.toNat ++ digB x.toNat l.length ++ (encL x p l).flatten ++ l.map (tagB x) := by
    unfold piecesM
    rw [hp, show (b.length : Int) + padN b x - k.2.2 = p - 3 * x - k.2.2 by omega]
    simp [flatten_tags]
  rw [hpieces]
  clear hpieces hall
  refine ⟨hw, ⟨?_, ?_, ?_, ?_, ?_, ?_, ?_⟩, ?_, ?_, ?_, ?_, ?_⟩
  · simp only [List.append_assoc]; exact List.take_left' rfl
  · simp only [List.length_append, length_zeros, length_digB, List.length_map] at hEl ⊢; omega
  · refine loadF_at (A := b ++ zeros (padN b x)) (C := digB x.toNat k.2.1.toNat ++ digB x.toNat l.length ++ (encL x p l).flatten ++ l.map (tagB x)) hw ?_ ?_ (by omega) (by omega)
    · simp only [List.append_assoc]
    · rw [List.length_append, length_zeros]; omega
  · refine loadF_at (A := b ++ zeros (padN b x) ++ digB x.toNat (p - 3 * x - k.2.2).toNat) (C := digB x.toNat l.length ++ (encL x p l).flatten ++ l.map (tagB x)) hw ?_ ?_ (by omega) hk8
    · simp only [List.append_assoc]
    · simp only [List.length_append, length_zeros, length_digB]; omega
  · refine loadF_at (A := b ++ zeros (padN b x) ++ digB x.toNat (p - 3 * x - k.2.2).toNat ++ digB x.toNat k.2.1.toNat) (C := (encL x p l).flatten ++ l.map (tagB x)) hw ?_ ?_ (by omega) hlen
    · simp only [List.append_assoc, Int.toNat_natCast]
    · simp only [List.length_append, length_zeros, length_digB]; omega
  · intro j v hj
    obtain ⟨A, C, hA, hAk⟩ := encL_at hw l p j v hj
    have hb := fitE_get l p j v hfe hj
    refine loadF_at (A := b ++ zeros (padN b x) ++ digB x.toNat (p - 3 * x - k.2.2).toNat ++ digB x.toNat k.2.1.toNat ++ digB x.toNat l.length ++ A) (C := C ++ l.map (tagB x)) hw ?_ ?_ hb.1 hb.2
    · rw [hA]; simp only [List.append_assoc]
    · simp only [List.length_append, length_zeros, length_digB]; omega
  · intro j v hj
    have hXl : (b ++ (zeros (padN b x) ++ digB x.toNat (p - 3 * x - k.2.2).toNat ++ digB x.toNat k.2.1.toNat ++ digB x.toNat l.length ++ (encL x p l).flatten)).length = (p + l.length * x).toNat := by
      have : (l.length : Int) * x = x * l.length := Int.mul_comm _ _
      simp only [List.length_append, length_zeros, length_digB] at hEl ⊢
      omega
    rw [← List.append_assoc, ← hXl, List.getElem?_append_right (by omega), Nat.add_sub_cancel_left, List.getElem?_map, hj]
    rfl
  · have : p - 3 * x = ((b.length : Int) + x - 1) / x * x := by rw [← hp, ← hpe]; omega
    rw [this]
    exact Int.mul_emod_left _ _
  · omega
  · omega
  · intro v hv hi
    obtain ⟨j, hj, hjv⟩ := List.getElem_of_mem hv
    have := fitsL_get l _ _ x j v hfit (by rw [List.getElem?_eq_getElem hj, hjv])
    unfold fitsV fitsF at this
    rw [if_pos hi] at this
    exact of_decide_eq_true this
  · omega
theorem loadF_more {X Z : List UInt8} {at_ x u : Int} (h : loadF X at_ x = (u, 0)) : loadF (X ++ Z) at_ x = (u, 0) := by
  unfold loadF at h ⊢
  by_cases hw : isW x = true
  · have hp := isW_pos hw
    rw [if_pos hw] at h ⊢
    by_cases hb : (at_ < 0 ∨ at_ > X.length - x)
    · rw [if_pos hb] at h
      simp at h
    · rw [if_neg hb] at h
      rw [if_neg (by rw [List.length_append]; omega)]
      rw [List.drop_append_of_le_length (by omega), List.take_append_of_le_length (by rw [List.length_drop]; omega)]
      exact h
  · rw [if_neg hw] at h
    simp at h
def BackM (x : Int) (v : V3) : Prop := (v.1 = 1 ∧ IntKind.u64.wrap (sgnF (lowF v.2.2 x) x) = v.2.2) ∨ (inlineB v.1 = false ∧ v.1 ≠ 1)
theorem back_valsM (l : List (Int × Int)) (a x : Int) (ha : 1 ≤ a) (hx : isW x = true) : ∀ v ∈ valsM l a, (inlineB v.1 = true → v.2.1 ≤ x) → BackM x v := by
  intro v hv
  obtain ⟨y, _, rfl⟩ := List.mem_map.1 hv
  rcases valM_cases y a ha with ⟨n, h0, h1, h⟩ | ⟨t, w, u, h, hl, hi, hww, hu0, hu1⟩
  · rw [h]; intro hw; exact .inl ⟨rfl, (sgn_pos hx h0 h1 (hw inl_1)).1⟩
  · rw [h]; intro _
    exact .inr ⟨hi, by rintro e; rw [show t = 1 from e] at hi; cases hi⟩
end Go.Proofs.Ytajpbclcfjljnaa

/-
  Maps, plain: two maps that share their keys. No program.
-/
namespace Go.Proofs.Ytajpbclcfjljnaa
open Go Go.ChangeShapes Go.WideShapes Go.ChangeAt Go.RowKit Go.Joins
open Go.Proofs.Ytajpbclcfjljnaa.Ft (V3 vV okV ValsAt inlineB legalB packF codeF typedF allF fitsL fitsV fitsF belowW)
set_option linter.unusedVariables false
set_option linter.unusedSimpArgs false
theorem Near.up {n m : Int} {v : V3} (h : Near n v) (hm : n ≤ m) : Near m v := ⟨h.1, h.2.1, h.2.2.1, fun e => Int.le_trans (h.2.2.2 e) hm⟩
theorem map_one {b : List UInt8} {k : V3} {l : List V3} (hb : b.length ≤ 5000) (hl : l.length ≤ 100) (h : ∀ v ∈ l, Near b.length v) (hk : KeyAt b.length k) :
    ∃ x p X, isW x = true ∧ putM 1048576 k l (b, 0) = (((9, x, p), 0), (X, 0)) ∧ (X.length : Int) ≤ b.length + 31 + 9 * l.length ∧ (b.length : Int) ≤ p - 3 * x ∧ p ≤ X.length ∧ k.2.2 ≤ p - 3 * x ∧ loadF X (p - 3 * x) x = (p - 3 * x - k.2.2, 0) ∧ ∃ R, X = b ++ R := by
  obtain ⟨x, hx⟩ : ∃ x, allF l k b.length 3 = x := ⟨_, rfl⟩
  obtain ⟨hw, hH, _, hlo, hhi, _, hko⟩ := heldM (p := (b.length : Int) + padN b x + 3 * x) (by omega) (by omega) h hk hx rfl
  have hle := lenM_le hw b l
  have hq := putM_ok (most := 1048576) (by omega) (by omega) h hk hx (by omega)
  have hp := length_piecesM hw k b l
  have hmul : 0 ≤ x * (l.length : Int) := Int.mul_nonneg (by have := isW_pos hw; omega) (by omega)
  have hlen := hH.len
  refine ⟨x, _, _, hw, hq, ?_, hlo, by omega, hko, hH.off, _, rfl⟩
  rw [List.length_append]
  omega
def keysB : List UInt8 := [97, 0, 98, 0, 2, 5, 4]
theorem twice_plain {L M : List V3} (hL : ∀ v ∈ L, Near 4 v) (hM : ∀ v ∈ M, Near 4 v) (hl : L.length ≤ 60) (hm : M.length ≤ 60) :
    ∃ x1 p1 X1 x2 p2 X2, isW x1 = true ∧ isW x2 = true ∧ putM 1048576 (14, 1, 5) L (keysB, 0) = (((9, x1, p1), 0), (X1, 0)) ∧ putM 1048576 (14, 1, 5) (M ++ [(9, x1, p1)]) (X1, 0) = (((9, x2, p2), 0), (X2, 0)) ∧ X1.length ≤ 2000 ∧ X2.length ≤ 5000 ∧ 0 ≤ p1 ∧ p1 ≤ 2000 ∧ p2 ≤ 5000 ∧ p2 ≤ X2.length ∧ 5 ≤ p1 - 3 * x1 ∧ p1 ≤ p2 - 3 * x2 ∧
      loadF X2 (p1 - 3 * x1) x1 = (p1 - 3 * x1 - 5, 0) ∧ loadF X2 (p2 - 3 * x2) x2 = (p2 - 3 * x2 - 5, 0) := by
  have hB : (keysB.length : Int) = 7 := rfl
  obtain ⟨x1, p1, X1, hw1, h1, h2, h3, h4, h5, h6, _⟩ := map_one (b := keysB) (k := (14, 1, 5)) (l := L) (by decide) (by omega) (fun v hv => (hL v hv).up (by omega)) ⟨rfl, rfl, by decide, by decide⟩
  have hx1 := isW_pos hw1
  have l9 : legalB 9 = true := by decide
  have i9 : inlineB 9 = false := by decide
  have hN9 : Near X1.length (9, x1, p1) := by
    refine ⟨?_, ⟨by show 0 ≤ p1; omega, by show p1 ≤ _; omega⟩, fun e => ?_, fun _ => h4⟩
    · unfold legalE
      rw [if_pos (show legalB ((9 : Int), x1, p1).1 = true from l9), if_neg (by rw [show ((9 : Int), x1, p1).1 = 9 from rfl, i9]; decide), if_pos hw1]
    · rw [show ((9 : Int), x1, p1).1 = 9 from rfl, i9] at e; cases e
  have hX1 : (4 : Int) ≤ X1.length := by omega
  obtain ⟨x2, p2, X2, hw2, g1, g2, g3, g4, g5, g6, R, hR⟩ := map_one (b := X1) (k := (14, 1, 5)) (l := M ++ [(9, x1, p1)]) (by omega) (by rw [List.length_append]; simp; omega) (fun v hv => by
    rcases List.mem_append.1 hv with hv | hv
    · exact (hM v hv).up hX1
    · rw [List.mem_singleton.1 hv]; exact hN9) ⟨rfl, rfl, by show (0 : Int) ≤ 5; decide, by show (5 : Int) ≤ _; omega⟩
  rw [List.length_append, List.length_singleton] at g2
  refine ⟨x1, p1, X1, x2, p2, X2, hw1, hw2, h1, g1, by omega, by omega, by omega, by omega, by omega, by omega, h5, by omega, ?_, g6⟩
  rw [hR]
  exact loadF_more h6
end Go.Proofs.Ytajpbclcfjljnaa
