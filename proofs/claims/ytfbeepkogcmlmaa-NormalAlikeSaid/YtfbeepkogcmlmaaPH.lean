/-
  Texts of the proof, part 8 of 8.
-/
import Derived.Test.YtfbeepkogcmlmaaPG
import Derived.Deep.CutBlock
import Derived.Deep.DeepCutAuto
import Derived.Test.YtfbeepkogcmlmaaPF
import Derived.Test.YtfbeepkogcmlmaaPC
import Derived.Test.YtfbeepkogcmlmaaPE
import Derived.Test.YtfbeepkogcmlmaaPB

/-
  Normal forms: Alike, and the law's is. Conditions: both nodes can be read.
-/
namespace Go.Proofs.Ytfbeepkogcmlmaa
open Go Go.ChangeShapes Go.WideShapes Go.ChangeAt Go.RowKit Go.Joins Go.Deep
set_option linter.unusedVariables false
set_option linter.unusedSimpArgs false

theorem of_sum {w w' : World} {t : Tr} {r : Ending} (h : OfOut w t r w') : Grew w w' ∧ ∃ (e k n u : Int) (s : ByteArray) (a4 : Option Addr) (n4 c4 : Nat) (a5 : Option Addr) (n5 c5 : Nat), r = .returned (.tuple #[.agg #[.int .i64 k, .int .i64 n, .int .u64 u, .string s, .slice a4 n4 c4, .slice a5 n5 c5], .int .i64 e]) ∧ e = checkE t ∧ (e = 0 → NodeAt w' (norT t) (.agg #[.int .i64 k, .int .i64 n, .int .u64 u, .string s, .slice a4 n4 c4, .slice a5 n5 c5])) := by
  obtain ⟨hg, ⟨h0, rfl⟩ | ⟨h0, v, S, rfl, ho, hf⟩⟩ := h
  · exact ⟨hg, checkE t, 0, 0, 0, ⟨#[]⟩, none, 0, 0, none, 0, 0, rfl, rfl, fun h => absurd h h0⟩
  · obtain ⟨k, n, u, s, a4, n4, c4, a5, n5, c5, rfl⟩ := ho.node6
    exact ⟨hg, 0, k, n, u, s, a4, n4, c4, a5, n5, c5, rfl, h0.symm, fun _ => ho.node⟩
def alikeP (a b : Tr) : Prop := checkE a = 0 ∧ checkE b = 0 ∧ norT a = norT b
set_option maxRecDepth 100000 in
set_option maxHeartbeats 4000000 in
theorem alike_any (t1 t2 : Tr) (v1 v2 : Value) (w : World) (hn : NodeAt w t1 v1) (hn2 : NodeAt w t2 v2) (hz1 : t1.size ≤ 1099511627776) (hz2 : t2.size ≤ 1099511627776) : Calls Try.prog 15 #[v1, v2] w fun r w' => ∃ b, r = .returned (.bool b) ∧ (b = true ↔ alikeP t1 t2) ∧ Grew w w' := by
  have HC := Lib.hid (And.intro hn hn2)
  obtain ⟨ak, an, au, as_, aa4, an4, ac4, aa5, an5, ac5, rfl⟩ := hn.node6
  obtain ⟨bk, bn, bu, bs, ba4, bn4, bc4, ba5, bn5, bc5, rfl⟩ := hn2.node6
  clear hn hn2
  go_enter Try.func15, Try.ntmps15
  go_wp2_with fail
  obtain ⟨N, hN⟩ : ∃ N, w.heap.size = N := ⟨_, rfl⟩
  have hb1 := heap_alloc_new w (.cells #[.int .i64 ak, .int .i64 an, .int .u64 au, .string as_, .slice aa4 an4 ac4, .slice aa5 an5 ac5] 26)
  have hgw1 := (Grew.refl w).alloc (.cells #[.int .i64 ak, .int .i64 an, .int .u64 au, .string as_, .slice aa4 an4 ac4, .slice aa5 an5 ac5] 26)
  have hsw1 : (w.alloc (.cells #[.int .i64 ak, .int .i64 an, .int .u64 au, .string as_, .slice aa4 an4 ac4, .slice aa5 an5 ac5] 26)).heap.size = w.heap.size + 1 := World.size_alloc _ _
  generalize (w.alloc (.cells #[.int .i64 ak, .int .i64 an, .int .u64 au, .string as_, .slice aa4 an4 ac4, .slice aa5 an5 ac5] 26)) = w1 at *
  have hb2 := heap_alloc_new w1 (.cells #[.int .i64 bk, .int .i64 bn, .int .u64 bu, .string bs, .slice ba4 bn4 bc4, .slice ba5 bn5 bc5] 26)
  have hgw2 := (Grew.refl w1).alloc (.cells #[.int .i64 bk, .int .i64 bn, .int .u64 bu, .string bs, .slice ba4 bn4 bc4, .slice ba5 bn5 bc5] 26)
  have hsw2 : (w1.alloc (.cells #[.int .i64 bk, .int .i64 bn, .int .u64 bu, .string bs, .slice ba4 bn4 bc4, .slice ba5 bn5 bc5] 26)).heap.size = w1.heap.size + 1 := World.size_alloc _ _
  generalize (w1.alloc (.cells #[.int .i64 bk, .int .i64 bn, .int .u64 bu, .string bs, .slice ba4 bn4 bc4, .slice ba5 bn5 bc5] 26)) = w2 at *
  rw [hsw1] at hb2
  skip
  replace hb1 := hgw2.heap hb1
  have HG := Lib.hid (hgw1.trans hgw2)
  have HB1 := Lib.hid hb1
  have HB2 := Lib.hid hb2
  clear hb1 hb2 hgw1 hgw2 hsw1 hsw2 hN
  refine (Of_any t1 _ w2 (HC.out.1.grew HG.out) hz1).mono ?_
  intro r w3 hh
  obtain ⟨hg3, e1, xk, xn, xu, xs, xa4, xn4, xc4, xa5, xn5, xc5, rfl, he1, hx⟩ := of_sum hh
  have HX := Lib.hid (And.intro he1 hx)
  have HG3 := Lib.hid (HG.out.trans hg3)
  have HB3 := Lib.hid (hg3.heap HB2.out)
  clear hh hg3 he1 hx HG
  have d0 := row_cellT HB3.out 0 _ rfl
  have d1 := row_cellT HB3.out 1 _ rfl
  have d2 := row_cellT HB3.out 2 _ rfl
  have d3 := row_cellT HB3.out 3 _ rfl
  have d4 := row_cellT HB3.out 4 _ rfl
  have d5 := row_cellT HB3.out 5 _ rfl
  go_upto_region 2 with fail
  have hb4 := heap_alloc_new w3 (.cells #[.int .i64 xk, .int .i64 xn, .int .u64 xu, .string xs, .slice xa4 xn4 xc4, .slice xa5 xn5 xc5] 26)
  have hgw4 := (Grew.refl w3).alloc (.cells #[.int .i64 xk, .int .i64 xn, .int .u64 xu, .string xs, .slice xa4 xn4 xc4, .slice xa5 xn5 xc5] 26)
  have hsw4 : (w3.alloc (.cells #[.int .i64 xk, .int .i64 xn, .int .u64 xu, .string xs, .slice xa4 xn4 xc4, .slice xa5 xn5 xc5] 26)).heap.size = w3.heap.size + 1 := World.size_alloc _ _
  generalize (w3.alloc (.cells #[.int .i64 xk, .int .i64 xn, .int .u64 xu, .string xs, .slice xa4 xn4 xc4, .slice xa5 xn5 xc5] 26)) = w4 at *
  have HB4 := Lib.hid hb4
  have HG4 := Lib.hid hgw4
  have HB3' := Lib.hid (hgw4.heap HB3.out)
  clear hb4 hgw4 hsw4 d0 d1 d2 d3 d4 d5
  have d0 := row_cellT HB3'.out 0 _ rfl
  have d1 := row_cellT HB3'.out 1 _ rfl
  have d2 := row_cellT HB3'.out 2 _ rfl
  have d3 := row_cellT HB3'.out 3 _ rfl
  have d4 := row_cellT HB3'.out 4 _ rfl
  have d5 := row_cellT HB3'.out 5 _ rfl
  go_wp2_with fail
  refine (Of_any t2 _ w4 (HC.out.2.grew (HG3.out.trans HG4.out)) hz2).mono ?_
  intro r w5 hh
  obtain ⟨hg5, e2, yk, yn, yu, ys, ya4, yn4, yc4, ya5, yn5, yc5, rfl, he2, hy⟩ := of_sum hh
  have HY := Lib.hid (And.intro he2 hy)
  have HG5 := Lib.hid hg5
  have HB5 := Lib.hid (hg5.heap HB4.out)
  clear hh hg5 he2 hy d0 d1 d2 d3 d4 d5
  go_upto_region 3 with fail
  have hb6 := heap_alloc_new w5 (.cells #[.int .i64 yk, .int .i64 yn, .int .u64 yu, .string ys, .slice ya4 yn4 yc4, .slice ya5 yn5 yc5] 26)
  have hgw6 := (Grew.refl w5).alloc (.cells #[.int .i64 yk, .int .i64 yn, .int .u64 yu, .string ys, .slice ya4 yn4 yc4, .slice ya5 yn5 yc5] 26)
  have hsw6 : (w5.alloc (.cells #[.int .i64 yk, .int .i64 yn, .int .u64 yu, .string ys, .slice ya4 yn4 yc4, .slice ya5 yn5 yc5] 26)).heap.size = w5.heap.size + 1 := World.size_alloc _ _
  generalize (w5.alloc (.cells #[.int .i64 yk, .int .i64 yn, .int .u64 yu, .string ys, .slice ya4 yn4 yc4, .slice ya5 yn5 yc5] 26)) = w6 at *
  have HG6 := Lib.hid hgw6
  have HB6 := Lib.hid (hgw6.heap HB5.out)
  have f0 := row_cellT hb6 0 _ rfl
  have f1 := row_cellT hb6 1 _ rfl
  have f2 := row_cellT hb6 2 _ rfl
  have f3 := row_cellT hb6 3 _ rfl
  have f4 := row_cellT hb6 4 _ rfl
  have f5 := row_cellT hb6 5 _ rfl
  have d0 := row_cellT HB6.out 0 _ rfl
  have d1 := row_cellT HB6.out 1 _ rfl
  have d2 := row_cellT HB6.out 2 _ rfl
  have d3 := row_cellT HB6.out 3 _ rfl
  have d4 := row_cellT HB6.out 4 _ rfl
  have d5 := row_cellT HB6.out 5 _ rfl
  clear hb6 hgw6 hsw6
  have HGA : Hid (Grew w w6) := ((HG3.out.trans HG4.out).trans HG5.out).trans HG6.out
  by_cases h1 : e1 = 0
  rotate_left
  · have hb : (e1 == 0) = false := by simpa using h1
    have H1 := Lib.hid h1
    clear h1
    go_wp2_with fail
    go_ret
    exact ⟨false, rfl, ⟨fun h => absurd h (by decide), fun h => absurd (HX.out.1.trans h.1) H1.out⟩, HGA.out⟩
  by_cases h2 : e2 = 0
  rotate_left
  · have hb : (e2 == 0) = false := by simpa using h2
    have hb1 : (e1 == 0) = true := by simpa using h1
    have H2 := Lib.hid h2
    clear h1 h2
    go_wp2_with fail
    go_ret
    exact ⟨false, rfl, ⟨fun h => absurd h (by decide), fun h => absurd (HY.out.1.trans h.2.1) H2.out⟩, HGA.out⟩
  have HNX := Lib.hid ((HX.out.2 h1).grew ((HG4.out.trans HG5.out).trans HG6.out))
  have HNY := Lib.hid ((HY.out.2 h2).grew HG6.out)
  have HE : Hid (checkE t1 = 0 ∧ checkE t2 = 0) := ⟨by rw [← HX.out.1]; exact h1, by rw [← HY.out.1]; exact h2⟩
  subst h1
  subst h2
  go_wp2_with fail
  refine (same_any _ _ (Nat.le_refl _) _ _ _ _ HNX.out HNY.out).mono ?_
  rintro r w7 ⟨bb, rfl, hbb, hg⟩
  have HF := Lib.hid (And.intro hbb (HGA.out.trans hg))
  clear hbb hg
  go_wp2_with fail
  go_ret
  exact ⟨bb, rfl, ⟨fun h => ⟨HE.out.1, HE.out.2, HF.out.1.1 h⟩, fun h => HF.out.1.2 h.2.2⟩, HF.out.2⟩
set_option maxRecDepth 100000 in
set_option maxHeartbeats 4000000 in
theorem is9_any (t1 t2 : Tr) (v1 v2 : Value) (w : World) (hn : NodeAt w t1 v1) (hn2 : NodeAt w t2 v2) (hz1 : t1.size ≤ 1099511627776) : Calls Try.prog 33 #[v1, v2] w fun r w' => ∃ b, r = .returned (.bool b) ∧ (b = true ↔ checkE t1 = 0 ∧ norT t1 = t2) ∧ Grew w w' := by
  have HC := Lib.hid (And.intro hn hn2)
  obtain ⟨ak, an, au, as_, aa4, an4, ac4, aa5, an5, ac5, rfl⟩ := hn.node6
  obtain ⟨bk, bn, bu, bs, ba4, bn4, bc4, ba5, bn5, bc5, rfl⟩ := hn2.node6
  clear hn hn2
  go_enter Try.func33, Try.ntmps33
  go_wp2_with fail
  have hb1 := heap_alloc_new w (.cells #[.int .i64 ak, .int .i64 an, .int .u64 au, .string as_, .slice aa4 an4 ac4, .slice aa5 an5 ac5] 26)
  have hgw1 := (Grew.refl w).alloc (.cells #[.int .i64 ak, .int .i64 an, .int .u64 au, .string as_, .slice aa4 an4 ac4, .slice aa5 an5 ac5] 26)
  have hsw1 : (w.alloc (.cells #[.int .i64 ak, .int .i64 an, .int .u64 au, .string as_, .slice aa4 an4 ac4, .slice aa5 an5 ac5] 26)).heap.size = w.heap.size + 1 := World.size_alloc _ _
  generalize (w.alloc (.cells #[.int .i64 ak, .int .i64 an, .int .u64 au, .string as_, .slice aa4 an4 ac4, .slice aa5 an5 ac5] 26)) = w1 at *
  have hb2 := heap_alloc_new w1 (.cells #[.int .i64 bk, .int .i64 bn, .int .u64 bu, .string bs, .slice ba4 bn4 bc4, .slice ba5 bn5 bc5] 26)
  have hgw2 := (Grew.refl w1).alloc (.cells #[.int .i64 bk, .int .i64 bn, .int .u64 bu, .string bs, .slice ba4 bn4 bc4, .slice ba5 bn5 bc5] 26)
  have hsw2 : (w1.alloc (.cells #[.int .i64 bk, .int .i64 bn, .int .u64 bu, .string bs, .slice ba4 bn4 bc4, .slice ba5 bn5 bc5] 26)).heap.size = w1.heap.size + 1 := World.size_alloc _ _
  generalize (w1.alloc (.cells #[.int .i64 bk, .int .i64 bn, .int .u64 bu, .string bs, .slice ba4 bn4 bc4, .slice ba5 bn5 bc5] 26)) = w2 at *
  rw [hsw1] at hb2
  have HG := Lib.hid (hgw1.trans hgw2)
  have HB2 := Lib.hid hb2
  clear hb1 hb2 hgw1 hgw2 hsw1 hsw2
  refine (Of_any t1 _ w2 (HC.out.1.grew HG.out) hz1).mono ?_
  intro r w3 hh
  obtain ⟨hg3, e1, xk, xn, xu, xs, xa4, xn4, xc4, xa5, xn5, xc5, rfl, he1, hx⟩ := of_sum hh
  have HX := Lib.hid (And.intro he1 hx)
  have HG3 := Lib.hid (HG.out.trans hg3)
  have HB3 := Lib.hid (hg3.heap HB2.out)
  have HC3 := Lib.hid (HC.out.2.grew HG3.out)
  clear hh hg3 he1 hx HG
  go_upto_region 2 with fail
  have hb4 := heap_alloc_new w3 (.cells #[.int .i64 xk, .int .i64 xn, .int .u64 xu, .string xs, .slice xa4 xn4 xc4, .slice xa5 xn5 xc5] 26)
  have hgw4 := (Grew.refl w3).alloc (.cells #[.int .i64 xk, .int .i64 xn, .int .u64 xu, .string xs, .slice xa4 xn4 xc4, .slice xa5 xn5 xc5] 26)
  have hsw4 : (w3.alloc (.cells #[.int .i64 xk, .int .i64 xn, .int .u64 xu, .string xs, .slice xa4 xn4 xc4, .slice xa5 xn5 xc5] 26)).heap.size = w3.heap.size + 1 := World.size_alloc _ _
  generalize (w3.alloc (.cells #[.int .i64 xk, .int .i64 xn, .int .u64 xu, .string xs, .slice xa4 xn4 xc4, .slice xa5 xn5 xc5] 26)) = w4 at *
  have HG4 := Lib.hid hgw4
  have HB4 := Lib.hid (hgw4.heap HB3.out)
  have f0 := row_cellT hb4 0 _ rfl
  have f1 := row_cellT hb4 1 _ rfl
  have f2 := row_cellT hb4 2 _ rfl
  have f3 := row_cellT hb4 3 _ rfl
  have f4 := row_cellT hb4 4 _ rfl
  have f5 := row_cellT hb4 5 _ rfl
  have d0 := row_cellT HB4.out 0 _ rfl
  have d1 := row_cellT HB4.out 1 _ rfl
  have d2 := row_cellT HB4.out 2 _ rfl
  have d3 := row_cellT HB4.out 3 _ rfl
  have d4 := row_cellT HB4.out 4 _ rfl
  have d5 := row_cellT HB4.out 5 _ rfl
  clear hb4 hgw4 hsw4
  have HGA := Lib.hid (HG3.out.trans HG4.out)
  by_cases h1 : e1 = 0
  rotate_left
  · have hb : (e1 == 0) = false := by simpa using h1
    have H1 := Lib.hid h1
    clear h1
    go_wp2_with fail
    go_ret
    exact ⟨false, rfl, ⟨fun h => absurd h (by decide), fun h => absurd (HX.out.1.trans h.1) H1.out⟩, HGA.out⟩
  have HNX := Lib.hid ((HX.out.2 h1).grew HG4.out)
  have HE : Hid (checkE t1 = 0) := by rw [← HX.out.1]; exact h1
  subst h1
  go_wp2_with fail
  refine (eqnode_any _ _ (Nat.le_refl _) _ _ _ _ HNX.out (HC3.out.grew HG4.out)).mono ?_
  rintro r w7 ⟨bb, rfl, hbb, hg⟩
  have HF := Lib.hid (And.intro hbb (HGA.out.trans hg))
  clear hbb hg
  go_wp2_with fail
  go_ret
  exact ⟨bb, rfl, ⟨fun h => ⟨HE.out, HF.out.1.1 h⟩, fun h => HF.out.1.2 h.2⟩, HF.out.2⟩
end Go.Proofs.Ytfbeepkogcmlmaa

/-
  Normal forms, the reference: Check, Sorted, Of, Alike. Conditions: the trees lie in memory, with at most 4096 nodes.
-/
namespace Go.Proofs.Ytfbeepkogcmlmaa
open Go Go.ChangeShapes Go.WideShapes Go.ChangeAt Go.RowKit Go.Joins Go.Deep
set_option linter.unusedVariables false
set_option linter.unusedSimpArgs false

set_option maxRecDepth 100000 in
set_option maxHeartbeats 4000000 in
theorem rchk09_any (t : Tr) (hz : t.size ≤ 4096) (v : Value) (w : World) (hn : NodeAt w t v) : Calls Try.prog 49 #[v] w fun r w' => r = .returned (.int .i64 (chkR 0 t)) ∧ Grew w w' := by
  have HC := Lib.hid hn
  obtain ⟨xk, xn, xu, xs_, xa4, xn4, xc4, xa5, xn5, xc5, rfl⟩ := hn.node6
  clear hn
  go_enter Try.func49, Try.ntmps49
  go_upto_region 1 with fail
  have hb1 := heap_alloc_new w (.cells #[.int .i64 xk, .int .i64 xn, .int .u64 xu, .string xs_, .slice xa4 xn4 xc4, .slice xa5 xn5 xc5] 26)
  have hg1 := (Grew.refl w).alloc (.cells #[.int .i64 xk, .int .i64 xn, .int .u64 xu, .string xs_, .slice xa4 xn4 xc4, .slice xa5 xn5 xc5] 26)
  have hs1 : (w.alloc (.cells #[.int .i64 xk, .int .i64 xn, .int .u64 xu, .string xs_, .slice xa4 xn4 xc4, .slice xa5 xn5 xc5] 26)).heap.size = w.heap.size + 1 := World.size_alloc _ _
  generalize (w.alloc (.cells #[.int .i64 xk, .int .i64 xn, .int .u64 xu, .string xs_, .slice xa4 xn4 xc4, .slice xa5 xn5 xc5] 26)) = w1 at *
  obtain ⟨N, hN⟩ : ∃ N, w.heap.size = N := ⟨_, rfl⟩
  rw [hN] at hb1 hs1 ⊢
  have d0 := row_cellT hb1 0 _ rfl
  have d1 := row_cellT hb1 1 _ rfl
  have d2 := row_cellT hb1 2 _ rfl
  have d3 := row_cellT hb1 3 _ rfl
  have d4 := row_cellT hb1 4 _ rfl
  have d5 := row_cellT hb1 5 _ rfl
  go_upto_region 2 with fail
  have hb2 := heap_alloc_new w1 (.cells #[.int .i64 0] 76)
  have hg2 := (Grew.refl w1).alloc (.cells #[.int .i64 0] 76)
  have hs2 : (w1.alloc (.cells #[.int .i64 0] 76)).heap.size = w1.heap.size + 1 := World.size_alloc _ _
  generalize (w1.alloc (.cells #[.int .i64 0] 76)) = w2 at *
  clear d0 d1 d2 d3 d4 d5
  have hb1' := hg2.heap hb1
  have d0 := row_cellT hb1' 0 _ rfl
  have d1 := row_cellT hb1' 1 _ rfl
  have d2 := row_cellT hb1' 2 _ rfl
  have d3 := row_cellT hb1' 3 _ rfl
  have d4 := row_cellT hb1' 4 _ rfl
  have d5 := row_cellT hb1' 5 _ rfl
  have HG := Lib.hid (hg1.trans hg2)
  have hc := rchk_any w1 w1.heap.size (Nat.le_refl _) t.size t (Nat.le_refl _) _ w2 0 0 (by omega) (by omega) (by omega) (HC.out.grew hg1) hg2 hb2
  rw [show ((0 : Nat) : Int) = 0 from rfl] at hc
  have HCL := Lib.hid hc
  have HS1 : Hid (w.heap.size ≤ w1.heap.size) := hg1.size
  rw [hs1] at HCL HS1
  try rw [hs1]
  clear hc hb1 hb1' hb2 hg1 hg2 hs1 hs2 hN
  go_wp2_with fail
  refine HCL.out.mono ?_
  rintro r w3 ⟨rfl, hm, _⟩
  have HF : Hid (Grew w w3) := Moved.fresh HG.out hm (fun g e => by have := HS1.out; omega)
  clear hm
  go_wp2_with fail
  go_ret
  exact ⟨rfl, HF.out⟩
/-- What the reference's Sorted and Of hand back. -/
def RefOut (w : World) (t t' : Tr) (r : Ending) (w' : World) : Prop :=
  Grew w w' ∧ ((chkR 0 t ≠ 0 ∧ r = .returned (.tuple #[.agg #[.int .i64 0, .int .i64 0, .int .u64 0, .string ⟨#[]⟩, .slice none 0 0, .slice none 0 0], .int .i64 (chkR 0 t)])) ∨ (chkR 0 t = 0 ∧ ∃ v, r = .returned (.tuple #[v, .int .i64 0]) ∧ OwnT w' w.heap.size t' v (Fresh w w')))
theorem own_ret2 {w x1 wr : World} {N : Nat} {t t' : Tr} {v : Value} (hN : w.heap.size = N) (hx : N + 2 ≤ x1.heap.size) (h : OwnT wr x1.heap.size t' v (Fresh x1 wr)) (hg : Grew w wr) (h0 : chkR 0 t = 0) (a b c d e f : Value) :
    RefOut w t t' (.returned (.tuple #[v, .int .i64 0])) (store6 wr (N + 1) a b c d e f) := by
  obtain ⟨v', e, h1, h2⟩ := own_ret hN hx h hg a b c d e f
  cases e
  exact ⟨h2, .inr ⟨h0, _, rfl, h1⟩⟩
theorem ref_err {w wr : World} {N : Nat} {t t' : Tr} {e : Int} (hN : w.heap.size = N) (hg : Grew w wr) (he : chkR 0 t = e) (h0 : e ≠ 0) (a b c d f g : Value) :
    RefOut w t t' (.returned (.tuple #[.agg #[.int .i64 0, .int .i64 0, .int .u64 0, .string ⟨#[]⟩, .slice none 0 0, .slice none 0 0], .int .i64 e])) (store6 wr (N + 1) a b c d f g) :=
  ⟨Moved.fresh hg (moved_store6 wr (N + 1) a b c d f g) (fun g e => by omega), .inl ⟨by rw [he]; exact h0, by rw [he]⟩⟩
set_option maxRecDepth 100000 in
set_option maxHeartbeats 4000000 in
theorem rsorted_any (t : Tr) (hz : t.size ≤ 4096) (v : Value) (w : World) (hn : NodeAt w t v) : Calls Try.prog 30 #[v] w fun r w' => RefOut w t (sortT t) r w' := by
  have HC := Lib.hid hn
  obtain ⟨xk, xn, xu, xs_, xa4, xn4, xc4, xa5, xn5, xc5, rfl⟩ := hn.node6
  clear hn
  obtain ⟨N, hN⟩ : ∃ N, w.heap.size = N := ⟨_, rfl⟩
  go_enter Try.func30, Try.ntmps30
  go_wp2_with fail
  have hb1 := heap_alloc_new w (.cells #[.int .i64 xk, .int .i64 xn, .int .u64 xu, .string xs_, .slice xa4 xn4 xc4, .slice xa5 xn5 xc5] 26)
  have hg1 := (Grew.refl w).alloc (.cells #[.int .i64 xk, .int .i64 xn, .int .u64 xu, .string xs_, .slice xa4 xn4 xc4, .slice xa5 xn5 xc5] 26)
  have hs1 : (w.alloc (.cells #[.int .i64 xk, .int .i64 xn, .int .u64 xu, .string xs_, .slice xa4 xn4 xc4, .slice xa5 xn5 xc5] 26)).heap.size = w.heap.size + 1 := World.size_alloc _ _
  generalize (w.alloc (.cells #[.int .i64 xk, .int .i64 xn, .int .u64 xu, .string xs_, .slice xa4 xn4 xc4, .slice xa5 xn5 xc5] 26)) = w1 at *
  have hb2 := heap_alloc_new w1 (.cells #[.int .i64 0, .int .i64 0, .int .u64 0, .string ⟨#[]⟩, .slice none 0 0, .slice none 0 0] 26)
  have hg2 := (Grew.refl w1).alloc (.cells #[.int .i64 0, .int .i64 0, .int .u64 0, .string ⟨#[]⟩, .slice none 0 0, .slice none 0 0] 26)
  have hs2 : (w1.alloc (.cells #[.int .i64 0, .int .i64 0, .int .u64 0, .string ⟨#[]⟩, .slice none 0 0, .slice none 0 0] 26)).heap.size = w1.heap.size + 1 := World.size_alloc _ _
  generalize (w1.alloc (.cells #[.int .i64 0, .int .i64 0, .int .u64 0, .string ⟨#[]⟩, .slice none 0 0, .slice none 0 0] 26)) = w2 at *
  rw [hs1, hN] at hb2 hs2
  rw [hN] at hb1
  replace hb1 := hg2.heap hb1
  have HG := Lib.hid (hg1.trans hg2)
  have HB1 := Lib.hid hb1
  have HB2 := Lib.hid hb2
  have HN := Lib.hid hN
  have H2 : Hid (N + 2 ≤ w2.heap.size) := Nat.le_of_eq hs2.symm
  clear hb1 hb2 hg1 hg2 hs1 hs2 hN
  refine (rchk09_any t hz _ w2 (HC.out.grew HG.out)).mono ?_
  rintro r w3 ⟨rfl, hg3⟩
  have HG3 := Lib.hid hg3
  have HGE := Lib.hid (HG.out.trans hg3)
  have HRB := Lib.hid (hg3.heap HB2.out)
  have HB3 := Lib.hid (hg3.heap HB1.out)
  clear hg3
  obtain ⟨e, he⟩ : ∃ e, chkR 0 t = e := ⟨_, rfl⟩
  rw [he]
  have HE := Lib.hid he
  clear he
  by_cases h0 : e = 0
  rotate_left
  · have hb : (e != 0) = true := by simpa using h0
    have hb2 : (e == 0) = false := by simpa using h0
    have H0 := Lib.hid h0
    clear h0
    have HFN := Lib.hid (ref_err (t' := sortT t) HN.out HGE.out HE.out H0.out (.int .i64 0) (.int .i64 0) (.int .u64 0) (.string ⟨#[]⟩) (.slice none 0 0) (.slice none 0 0))
    have z0 := row_cellT HRB.out 0 _ rfl
    have z1 := row_cellT HRB.out 1 _ rfl
    have z2 := row_cellT HRB.out 2 _ rfl
    have z3 := row_cellT HRB.out 3 _ rfl
    have z4 := row_cellT HRB.out 4 _ rfl
    have z5 := row_cellT HRB.out 5 _ rfl
    have q0 := row_frozen HRB.out 0
    have q1 := row_frozen HRB.out 1
    have q2 := row_frozen HRB.out 2
    have q3 := row_frozen HRB.out 3
    have q4 := row_frozen HRB.out 4
    have q5 := row_frozen HRB.out 5
    go_wp2_with fail
    refine bodyPost_ret (v := .tuple #[.agg #[.int .i64 0, .int .i64 0, .int .u64 0, .string ⟨#[]⟩, .slice none 0 0, .slice none 0 0], .int .i64 e]) (by simp [results, Try.results30, go_sem, z0, z1, z2, z3, z4, z5]) rfl ?_
    exact HFN.out
  subst h0
  have HV : Hid (valT 0 t) := (chkR_zero t.size t 0 (Nat.le_refl _)).1 HE.out
  have HFEW : Hid (Few t) := few_val _ _ 0 (Nat.le_refl _) (by omega) HV.out
  have d0 := row_cellT HB3.out 0 _ rfl
  have d1 := row_cellT HB3.out 1 _ rfl
  have d2 := row_cellT HB3.out 2 _ rfl
  have d3 := row_cellT HB3.out 3 _ rfl
  have d4 := row_cellT HB3.out 4 _ rfl
  have d5 := row_cellT HB3.out 5 _ rfl
  go_wp2_with fail
  refine (copynode_any _ _ (Nat.le_refl _) _ _ (HC.out.grew HGE.out) HFEW.out).mono ?_
  rintro r w4 ⟨v4, rfl, ho4, hg4⟩
  have HN4 := Lib.hid ho4.node
  have HG4 := Lib.hid (HGE.out.trans hg4)
  have HRB4 := Lib.hid (hg4.heap HRB.out)
  have HS4 : Hid (N + 2 ≤ w4.heap.size) := Nat.le_trans H2.out (HG3.out.trans hg4).size
  clear ho4 hg4 d0 d1 d2 d3 d4 d5
  go_wp2_with fail
  refine (rsort_any _ _ (Nat.le_refl _) 0 HV.out hz _ _ HN4.out).mono ?_
  rintro r w5 ⟨v5, rfl, ho5, hg5⟩
  obtain ⟨yk, yn, yu, ys_, ya4, yn4, yc4, ya5, yn5, yc5, rfl⟩ := ho5.node6
  have HRB5 := Lib.hid (hg5.heap HRB4.out)
  have HFN := Lib.hid (own_ret2 (t := t) HN.out HS4.out ho5 (HG4.out.trans hg5) HE.out (.int .i64 yk) (.int .i64 yn) (.int .u64 yu) (.string ys_) (.slice ya4 yn4 yc4) (.slice ya5 yn5 yc5))
  clear ho5 hg5
  have z0 := row_cellT HRB5.out 0 _ rfl
  have z1 := row_cellT HRB5.out 1 _ rfl
  have z2 := row_cellT HRB5.out 2 _ rfl
  have z3 := row_cellT HRB5.out 3 _ rfl
  have z4 := row_cellT HRB5.out 4 _ rfl
  have z5 := row_cellT HRB5.out 5 _ rfl
  have q0 := row_frozen HRB5.out 0
  have q1 := row_frozen HRB5.out 1
  have q2 := row_frozen HRB5.out 2
  have q3 := row_frozen HRB5.out 3
  have q4 := row_frozen HRB5.out 4
  have q5 := row_frozen HRB5.out 5
  go_wp2_with fail
  refine bodyPost_ret (v := .tuple #[.agg #[.int .i64 yk, .int .i64 yn, .int .u64 yu, .string ys_, .slice ya4 yn4 yc4, .slice ya5 yn5 yc5], .int .i64 0]) (by simp [results, Try.results30, go_sem, z0, z1, z2, z3, z4, z5]) rfl ?_
  exact HFN.out
set_option maxRecDepth 100000 in
set_option maxHeartbeats 4000000 in
theorem rOf_any (t : Tr) (hz : t.size ≤ 4096) (v : Value) (w : World) (hn : NodeAt w t v) : Calls Try.prog 11 #[v] w fun r w' => RefOut w t (norT t) r w' := by
  have HC := Lib.hid hn
  obtain ⟨xk, xn, xu, xs_, xa4, xn4, xc4, xa5, xn5, xc5, rfl⟩ := hn.node6
  clear hn
  obtain ⟨N, hN⟩ : ∃ N, w.heap.size = N := ⟨_, rfl⟩
  go_enter Try.func11, Try.ntmps11
  go_wp2_with fail
  have hb1 := heap_alloc_new w (.cells #[.int .i64 xk, .int .i64 xn, .int .u64 xu, .string xs_, .slice xa4 xn4 xc4, .slice xa5 xn5 xc5] 26)
  have hg1 := (Grew.refl w).alloc (.cells #[.int .i64 xk, .int .i64 xn, .int .u64 xu, .string xs_, .slice xa4 xn4 xc4, .slice xa5 xn5 xc5] 26)
  have hs1 : (w.alloc (.cells #[.int .i64 xk, .int .i64 xn, .int .u64 xu, .string xs_, .slice xa4 xn4 xc4, .slice xa5 xn5 xc5] 26)).heap.size = w.heap.size + 1 := World.size_alloc _ _
  generalize (w.alloc (.cells #[.int .i64 xk, .int .i64 xn, .int .u64 xu, .string xs_, .slice xa4 xn4 xc4, .slice xa5 xn5 xc5] 26)) = w1 at *
  have hb2 := heap_alloc_new w1 (.cells #[.int .i64 0, .int .i64 0, .int .u64 0, .string ⟨#[]⟩, .slice none 0 0, .slice none 0 0] 26)
  have hg2 := (Grew.refl w1).alloc (.cells #[.int .i64 0, .int .i64 0, .int .u64 0, .string ⟨#[]⟩, .slice none 0 0, .slice none 0 0] 26)
  have hs2 : (w1.alloc (.cells #[.int .i64 0, .int .i64 0, .int .u64 0, .string ⟨#[]⟩, .slice none 0 0, .slice none 0 0] 26)).heap.size = w1.heap.size + 1 := World.size_alloc _ _
  generalize (w1.alloc (.cells #[.int .i64 0, .int .i64 0, .int .u64 0, .string ⟨#[]⟩, .slice none 0 0, .slice none 0 0] 26)) = w2 at *
  rw [hs1, hN] at hb2 hs2
  rw [hN] at hb1
  replace hb1 := hg2.heap hb1
  have HG := Lib.hid (hg1.trans hg2)
  have HB1 := Lib.hid hb1
  have HB2 := Lib.hid hb2
  have HN := Lib.hid hN
  have H2 : Hid (N + 2 ≤ w2.heap.size) := Nat.le_of_eq hs2.symm
  clear hb1 hb2 hg1 hg2 hs1 hs2 hN
  refine (rsorted_any t hz _ w2 (HC.out.grew HG.out)).mono ?_
  intro r w3 hs
  obtain ⟨hg3, hs⟩ := hs
  have HG3 := Lib.hid hg3
  have HGX := Lib.hid (HG.out.trans hg3)
  have HRX := Lib.hid (hg3.heap HB2.out)
  clear hg3
  obtain ⟨e, he⟩ : ∃ e, chkR 0 t = e := ⟨_, rfl⟩
  rw [he] at hs
  have HE := Lib.hid he
  clear he
  rcases hs with ⟨h0, rfl⟩ | ⟨h0, sv, rfl, ho⟩
  · have hb : (e != 0) = true := by simpa using h0
    have hb2 : (e == 0) = false := by simpa using h0
    have H0 := Lib.hid h0
    clear h0
    go_upto_region 2 with fail
    have hb4 := heap_alloc_new w3 (.cells #[.int .i64 0, .int .i64 0, .int .u64 0, .string ⟨#[]⟩, .slice none 0 0, .slice none 0 0] 26)
    have hg4 := (Grew.refl w3).alloc (.cells #[.int .i64 0, .int .i64 0, .int .u64 0, .string ⟨#[]⟩, .slice none 0 0, .slice none 0 0] 26)
    have hs4 : (w3.alloc (.cells #[.int .i64 0, .int .i64 0, .int .u64 0, .string ⟨#[]⟩, .slice none 0 0, .slice none 0 0] 26)).heap.size = w3.heap.size + 1 := World.size_alloc _ _
    generalize (w3.alloc (.cells #[.int .i64 0, .int .i64 0, .int .u64 0, .string ⟨#[]⟩, .slice none 0 0, .slice none 0 0] 26)) = w4 at *
    have HGE := Lib.hid (HGX.out.trans hg4)
    have HRB := Lib.hid (hg4.heap HRX.out)
    clear hb4 hg4 hs4
    have HFN := Lib.hid (ref_err (t' := norT t) HN.out HGE.out HE.out H0.out (.int .i64 0) (.int .i64 0) (.int .u64 0) (.string ⟨#[]⟩) (.slice none 0 0) (.slice none 0 0))
    have z0 := row_cellT HRB.out 0 _ rfl
    have z1 := row_cellT HRB.out 1 _ rfl
    have z2 := row_cellT HRB.out 2 _ rfl
    have z3 := row_cellT HRB.out 3 _ rfl
    have z4 := row_cellT HRB.out 4 _ rfl
    have z5 := row_cellT HRB.out 5 _ rfl
    have q0 := row_frozen HRB.out 0
    have q1 := row_frozen HRB.out 1
    have q2 := row_frozen HRB.out 2
    have q3 := row_frozen HRB.out 3
    have q4 := row_frozen HRB.out 4
    have q5 := row_frozen HRB.out 5
    go_wp2_with fail
    refine bodyPost_ret (v := .tuple #[.agg #[.int .i64 0, .int .i64 0, .int .u64 0, .string ⟨#[]⟩, .slice none 0 0, .slice none 0 0], .int .i64 e]) (by simp [results, Try.results11, go_sem, z0, z1, z2, z3, z4, z5]) rfl ?_
    exact HFN.out
  · subst h0
    have HV : Hid (valT 0 t) := (chkR_zero t.size t 0 (Nat.le_refl _)).1 HE.out
    have HVS := Lib.hid (val_sort t.size t 0 (Nat.le_refl _) HV.out)
    obtain ⟨yk, yn, yu, ys_, ya4, yn4, yc4, ya5, yn5, yc5, rfl⟩ := ho.node6
    have HO := Lib.hid ho.node
    clear ho
    go_upto_region 2 with fail
    have hb4 := heap_alloc_new w3 (.cells #[.int .i64 yk, .int .i64 yn, .int .u64 yu, .string ys_, .slice ya4 yn4 yc4, .slice ya5 yn5 yc5] 26)
    have hg4 := (Grew.refl w3).alloc (.cells #[.int .i64 yk, .int .i64 yn, .int .u64 yu, .string ys_, .slice ya4 yn4 yc4, .slice ya5 yn5 yc5] 26)
    have hs4 : (w3.alloc (.cells #[.int .i64 yk, .int .i64 yn, .int .u64 yu, .string ys_, .slice ya4 yn4 yc4, .slice ya5 yn5 yc5] 26)).heap.size = w3.heap.size + 1 := World.size_alloc _ _
    generalize (w3.alloc (.cells #[.int .i64 yk, .int .i64 yn, .int .u64 yu, .string ys_, .slice ya4 yn4 yc4, .slice ya5 yn5 yc5] 26)) = w4 at *
    have HG4 := Lib.hid hg4
    have HRB := Lib.hid (hg4.heap HRX.out)
    have d0 := row_cellT hb4 0 _ rfl
    have d1 := row_cellT hb4 1 _ rfl
    have d2 := row_cellT hb4 2 _ rfl
    have d3 := row_cellT hb4 3 _ rfl
    have d4 := row_cellT hb4 4 _ rfl
    have d5 := row_cellT hb4 5 _ rfl
    clear hb4 hs4 hg4
    go_wp2_with fail
    refine (rof_any _ _ (Nat.le_refl _) 0 HVS.out.1 (by rw [HVS.out.2]; exact hz) _ _ (HO.out.grew HG4.out)).mono ?_
    rintro r w5 ⟨v5, rfl, ho5, hg5⟩
    obtain ⟨rk, rn, ru, rs_, ra4, rn4, rc4, ra5, rn5, rc5, rfl⟩ := ho5.node6
    have HRB5 := Lib.hid (hg5.heap HRB.out)
    have HS4 : Hid (N + 2 ≤ w4.heap.size) := Nat.le_trans H2.out (HG3.out.trans HG4.out).size
    have HFN := Lib.hid (own_ret2 (t := t) (t' := norT t) HN.out HS4.out ho5 ((HGX.out.trans HG4.out).trans hg5) HE.out (.int .i64 rk) (.int .i64 rn) (.int .u64 ru) (.string rs_) (.slice ra4 rn4 rc4) (.slice ra5 rn5 rc5))
    clear ho5 hg5
    have z0 := row_cellT HRB5.out 0 _ rfl
    have z1 := row_cellT HRB5.out 1 _ rfl
    have z2 := row_cellT HRB5.out 2 _ rfl
    have z3 := row_cellT HRB5.out 3 _ rfl
    have z4 := row_cellT HRB5.out 4 _ rfl
    have z5 := row_cellT HRB5.out 5 _ rfl
    have q0 := row_frozen HRB5.out 0
    have q1 := row_frozen HRB5.out 1
    have q2 := row_frozen HRB5.out 2
    have q3 := row_frozen HRB5.out 3
    have q4 := row_frozen HRB5.out 4
    have q5 := row_frozen HRB5.out 5
    go_wp2_with fail
    refine bodyPost_ret (v := .tuple #[.agg #[.int .i64 rk, .int .i64 rn, .int .u64 ru, .string rs_, .slice ra4 rn4 rc4, .slice ra5 rn5 rc5], .int .i64 0]) (by simp [results, Try.results11, go_sem, z0, z1, z2, z3, z4, z5]) rfl ?_
    exact HFN.out
theorem ref_sum {w w' : World} {t t' : Tr} {r : Ending} (h : RefOut w t t' r w') : Grew w w' ∧ ∃ (e k n u : Int) (s : ByteArray) (a4 : Option Addr) (n4 c4 : Nat) (a5 : Option Addr) (n5 c5 : Nat), r = .returned (.tuple #[.agg #[.int .i64 k, .int .i64 n, .int .u64 u, .string s, .slice a4 n4 c4, .slice a5 n5 c5], .int .i64 e]) ∧ e = chkR 0 t ∧ (e = 0 → NodeAt w' t' (.agg #[.int .i64 k, .int .i64 n, .int .u64 u, .string s, .slice a4 n4 c4, .slice a5 n5 c5])) := by
  obtain ⟨hg, ⟨h0, rfl⟩ | ⟨h0, v, rfl, ho⟩⟩ := h
  · exact ⟨hg, chkR 0 t, 0, 0, 0, ⟨#[]⟩, none, 0, 0, none, 0, 0, rfl, rfl, fun h => absurd h h0⟩
  · obtain ⟨k, n, u, s, a4, n4, c4, a5, n5, c5, rfl⟩ := ho.node6
    exact ⟨hg, 0, k, n, u, s, a4, n4, c4, a5, n5, c5, rfl, h0.symm, fun _ => ho.node⟩
set_option maxRecDepth 100000 in
set_option maxHeartbeats 4000000 in
theorem ralike_any (t1 t2 : Tr) (v1 v2 : Value) (w : World) (hn : NodeAt w t1 v1) (hn2 : NodeAt w t2 v2) (hz1 : t1.size ≤ 4096) (hz2 : t2.size ≤ 4096) : Calls Try.prog 16 #[v1, v2] w fun r w' => ∃ b, r = .returned (.bool b) ∧ (b = true ↔ chkR 0 t1 = 0 ∧ chkR 0 t2 = 0 ∧ norT t1 = norT t2) ∧ Grew w w' := by
  have HC := Lib.hid (And.intro hn hn2)
  obtain ⟨ak, an, au, as_, aa4, an4, ac4, aa5, an5, ac5, rfl⟩ := hn.node6
  obtain ⟨bk, bn, bu, bs, ba4, bn4, bc4, ba5, bn5, bc5, rfl⟩ := hn2.node6
  clear hn hn2
  go_enter Try.func16, Try.ntmps16
  go_wp2_with fail
  obtain ⟨N, hN⟩ : ∃ N, w.heap.size = N := ⟨_, rfl⟩
  have hb1 := heap_alloc_new w (.cells #[.int .i64 ak, .int .i64 an, .int .u64 au, .string as_, .slice aa4 an4 ac4, .slice aa5 an5 ac5] 26)
  have hgw1 := (Grew.refl w).alloc (.cells #[.int .i64 ak, .int .i64 an, .int .u64 au, .string as_, .slice aa4 an4 ac4, .slice aa5 an5 ac5] 26)
  have hsw1 : (w.alloc (.cells #[.int .i64 ak, .int .i64 an, .int .u64 au, .string as_, .slice aa4 an4 ac4, .slice aa5 an5 ac5] 26)).heap.size = w.heap.size + 1 := World.size_alloc _ _
  generalize (w.alloc (.cells #[.int .i64 ak, .int .i64 an, .int .u64 au, .string as_, .slice aa4 an4 ac4, .slice aa5 an5 ac5] 26)) = w1 at *
  have hb2 := heap_alloc_new w1 (.cells #[.int .i64 bk, .int .i64 bn, .int .u64 bu, .string bs, .slice ba4 bn4 bc4, .slice ba5 bn5 bc5] 26)
  have hgw2 := (Grew.refl w1).alloc (.cells #[.int .i64 bk, .int .i64 bn, .int .u64 bu, .string bs, .slice ba4 bn4 bc4, .slice ba5 bn5 bc5] 26)
  have hsw2 : (w1.alloc (.cells #[.int .i64 bk, .int .i64 bn, .int .u64 bu, .string bs, .slice ba4 bn4 bc4, .slice ba5 bn5 bc5] 26)).heap.size = w1.heap.size + 1 := World.size_alloc _ _
  generalize (w1.alloc (.cells #[.int .i64 bk, .int .i64 bn, .int .u64 bu, .string bs, .slice ba4 bn4 bc4, .slice ba5 bn5 bc5] 26)) = w2 at *
  rw [hsw1] at hb2
  skip
  replace hb1 := hgw2.heap hb1
  have HG := Lib.hid (hgw1.trans hgw2)
  have HB1 := Lib.hid hb1
  have HB2 := Lib.hid hb2
  clear hb1 hb2 hgw1 hgw2 hsw1 hsw2 hN
  refine (rOf_any t1 hz1 _ w2 (HC.out.1.grew HG.out)).mono ?_
  intro r w3 hh
  obtain ⟨hg3, e1, xk, xn, xu, xs, xa4, xn4, xc4, xa5, xn5, xc5, rfl, he1, hx⟩ := ref_sum hh
  have HX := Lib.hid (And.intro he1 hx)
  have HG3 := Lib.hid (HG.out.trans hg3)
  have HB3 := Lib.hid (hg3.heap HB2.out)
  clear hh hg3 he1 hx HG
  have d0 := row_cellT HB3.out 0 _ rfl
  have d1 := row_cellT HB3.out 1 _ rfl
  have d2 := row_cellT HB3.out 2 _ rfl
  have d3 := row_cellT HB3.out 3 _ rfl
  have d4 := row_cellT HB3.out 4 _ rfl
  have d5 := row_cellT HB3.out 5 _ rfl
  go_upto_region 2 with fail
  have hb4 := heap_alloc_new w3 (.cells #[.int .i64 xk, .int .i64 xn, .int .u64 xu, .string xs, .slice xa4 xn4 xc4, .slice xa5 xn5 xc5] 26)
  have hgw4 := (Grew.refl w3).alloc (.cells #[.int .i64 xk, .int .i64 xn, .int .u64 xu, .string xs, .slice xa4 xn4 xc4, .slice xa5 xn5 xc5] 26)
  have hsw4 : (w3.alloc (.cells #[.int .i64 xk, .int .i64 xn, .int .u64 xu, .string xs, .slice xa4 xn4 xc4, .slice xa5 xn5 xc5] 26)).heap.size = w3.heap.size + 1 := World.size_alloc _ _
  generalize (w3.alloc (.cells #[.int .i64 xk, .int .i64 xn, .int .u64 xu, .string xs, .slice xa4 xn4 xc4, .slice xa5 xn5 xc5] 26)) = w4 at *
  have HB4 := Lib.hid hb4
  have HG4 := Lib.hid hgw4
  have HB3' := Lib.hid (hgw4.heap HB3.out)
  clear hb4 hgw4 hsw4 d0 d1 d2 d3 d4 d5
  have d0 := row_cellT HB3'.out 0 _ rfl
  have d1 := row_cellT HB3'.out 1 _ rfl
  have d2 := row_cellT HB3'.out 2 _ rfl
  have d3 := row_cellT HB3'.out 3 _ rfl
  have d4 := row_cellT HB3'.out 4 _ rfl
  have d5 := row_cellT HB3'.out 5 _ rfl
  go_wp2_with fail
  refine (rOf_any t2 hz2 _ w4 (HC.out.2.grew (HG3.out.trans HG4.out))).mono ?_
  intro r w5 hh
  obtain ⟨hg5, e2, yk, yn, yu, ys, ya4, yn4, yc4, ya5, yn5, yc5, rfl, he2, hy⟩ := ref_sum hh
  have HY := Lib.hid (And.intro he2 hy)
  have HG5 := Lib.hid hg5
  have HB5 := Lib.hid (hg5.heap HB4.out)
  clear hh hg5 he2 hy d0 d1 d2 d3 d4 d5
  go_upto_region 3 with fail
  have hb6 := heap_alloc_new w5 (.cells #[.int .i64 yk, .int .i64 yn, .int .u64 yu, .string ys, .slice ya4 yn4 yc4, .slice ya5 yn5 yc5] 26)
  have hgw6 := (Grew.refl w5).alloc (.cells #[.int .i64 yk, .int .i64 yn, .int .u64 yu, .string ys, .slice ya4 yn4 yc4, .slice ya5 yn5 yc5] 26)
  have hsw6 : (w5.alloc (.cells #[.int .i64 yk, .int .i64 yn, .int .u64 yu, .string ys, .slice ya4 yn4 yc4, .slice ya5 yn5 yc5] 26)).heap.size = w5.heap.size + 1 := World.size_alloc _ _
  generalize (w5.alloc (.cells #[.int .i64 yk, .int .i64 yn, .int .u64 yu, .string ys, .slice ya4 yn4 yc4, .slice ya5 yn5 yc5] 26)) = w6 at *
  have HG6 := Lib.hid hgw6
  have HB6 := Lib.hid (hgw6.heap HB5.out)
  have f0 := row_cellT hb6 0 _ rfl
  have f1 := row_cellT hb6 1 _ rfl
  have f2 := row_cellT hb6 2 _ rfl
  have f3 := row_cellT hb6 3 _ rfl
  have f4 := row_cellT hb6 4 _ rfl
  have f5 := row_cellT hb6 5 _ rfl
  have d0 := row_cellT HB6.out 0 _ rfl
  have d1 := row_cellT HB6.out 1 _ rfl
  have d2 := row_cellT HB6.out 2 _ rfl
  have d3 := row_cellT HB6.out 3 _ rfl
  have d4 := row_cellT HB6.out 4 _ rfl
  have d5 := row_cellT HB6.out 5 _ rfl
  clear hb6 hgw6 hsw6
  have HGA : Hid (Grew w w6) := ((HG3.out.trans HG4.out).trans HG5.out).trans HG6.out
  by_cases h1 : e1 = 0
  rotate_left
  · have hb : (e1 == 0) = false := by simpa using h1
    have H1 := Lib.hid h1
    clear h1
    go_wp2_with fail
    go_ret
    exact ⟨false, rfl, ⟨fun h => absurd h (by decide), fun h => absurd (HX.out.1.trans h.1) H1.out⟩, HGA.out⟩
  by_cases h2 : e2 = 0
  rotate_left
  · have hb : (e2 == 0) = false := by simpa using h2
    have hb1 : (e1 == 0) = true := by simpa using h1
    have H2 := Lib.hid h2
    clear h1 h2
    go_wp2_with fail
    go_ret
    exact ⟨false, rfl, ⟨fun h => absurd h (by decide), fun h => absurd (HY.out.1.trans h.2.1) H2.out⟩, HGA.out⟩
  have HNX := Lib.hid ((HX.out.2 h1).grew ((HG4.out.trans HG5.out).trans HG6.out))
  have HNY := Lib.hid ((HY.out.2 h2).grew HG6.out)
  have HE : Hid (chkR 0 t1 = 0 ∧ chkR 0 t2 = 0) := ⟨by rw [← HX.out.1]; exact h1, by rw [← HY.out.1]; exact h2⟩
  subst h1
  subst h2
  go_wp2_with fail
  refine (eqnode_any _ _ (Nat.le_refl _) _ _ _ _ HNX.out HNY.out).mono ?_
  rintro r w7 ⟨bb, rfl, hbb, hg⟩
  have HF := Lib.hid (And.intro hbb (HGA.out.trans hg))
  clear hbb hg
  go_wp2_with fail
  go_ret
  exact ⟨bb, rfl, ⟨fun h => ⟨HE.out.1, HE.out.2, HF.out.1.1 h⟩, fun h => HF.out.1.2 h.2.2⟩, HF.out.2⟩
theorem ralike_eq {t1 t2 : Tr} (hz1 : t1.size ≤ 4096) (hz2 : t2.size ≤ 4096) : (chkR 0 t1 = 0 ∧ chkR 0 t2 = 0 ∧ norT t1 = norT t2) ↔ alikeP t1 t2 := by
  rw [chkR_check hz1, chkR_check hz2]; rfl
end Go.Proofs.Ytfbeepkogcmlmaa

/-
  Normal forms: the examples of the chapter hold. Conditions: none.
-/
namespace Go.Proofs.Ytfbeepkogcmlmaa
open Go Go.ChangeShapes Go.WideShapes Go.ChangeAt Go.RowKit Go.Joins Go.Deep
set_option linter.unusedVariables false
set_option linter.unusedSimpArgs false

theorem lenoks9 (l : List ByteArray) (h : (l.all fun s => decide (s.size ≤ 9223372036854775807)) = true) : ∀ s ∈ l, lenok s.size := by
  intro s hs
  simpa [lenok] using List.all_eq_true.1 h s hs
theorem leaf_nd (k n u : Int) (s : ByteArray) (h : i64ok k ∧ i64ok n ∧ u64ok u ∧ lenok s.size) (w : World) : Nd (.mk k n u s [] []) (.agg #[.int .i64 k, .int .i64 n, .int .u64 u, .string s, .slice none 0 0, .slice none 0 0]) w :=
  ⟨h, _, _, [], rfl, StrsAt.nil w, RowsAt.nil w, by simp [KidsAt]⟩
theorem vecK_nd (k : Int) (hk : i64ok k) {l : List Tr} {lv : Value} {w : World} (h2 : Rn l lv w) : Nd (.mk k 0 0 ⟨#[]⟩ [] l) (.agg #[.int .i64 k, .int .i64 0, .int .u64 0, .string ⟨#[]⟩, .slice none 0 0, lv]) w := by
  obtain ⟨vs, h3, h4⟩ := h2
  exact ⟨⟨hk, by unfold i64ok; omega, by unfold u64ok; omega, by unfold lenok; decide⟩, _, lv, vs, rfl, StrsAt.nil w, h3, h4⟩
/-- A new row of nodes, of strings. -/
def RnX (k : Nat) (ts : List Tr) (v : Value) (w : World) : Prop := (∃ g, v = .slice (some ⟨g, 0, none⟩) k k) ∧ Rn ts v w
theorem RnX.st (k : Nat) (ts : List Tr) : ∀ v w w', Grew w w' → RnX k ts v w → RnX k ts v w' := fun v w w' hg h => ⟨h.1, Rn.st _ v w w' hg h.2⟩
def SsX (k : Nat) (l : List ByteArray) (v : Value) (w : World) : Prop := (∃ g, v = .slice (some ⟨g, 0, none⟩) k k) ∧ Ss l v w
theorem SsX.st (k : Nat) (l : List ByteArray) : ∀ v w w', Grew w w' → SsX k l v w → SsX k l v w' := fun v w w' hg h => ⟨h.1, Ss.st _ v w w' hg h.2⟩
theorem w09_a : checkE (.mk 4 0 5 ⟨#[]⟩ [] []) = 0 ∧ norT (.mk 4 0 5 ⟨#[]⟩ [] []) = (.mk 3 5 0 ⟨#[]⟩ [] []) := ⟨by decide +kernel, by kernel_rfl⟩
theorem w09_b : checkE (.mk 4 0 9223372036854775808 ⟨#[]⟩ [] []) = 0 ∧ norT (.mk 4 0 9223372036854775808 ⟨#[]⟩ [] []) = (.mk 4 0 9223372036854775808 ⟨#[]⟩ [] []) := ⟨by decide +kernel, by kernel_rfl⟩
theorem w09_c : checkE (.mk 5 0 0 ⟨#[97]⟩ [] []) = 0 ∧ norT (.mk 5 0 0 ⟨#[97]⟩ [] []) = (.mk 6 0 0 ⟨#[97]⟩ [] []) := ⟨by decide +kernel, by kernel_rfl⟩
theorem w09_d : checkE (.mk 15 0 0 ⟨#[]⟩ [] [(.mk 3 1 0 ⟨#[]⟩ [] []), (.mk 3 2 0 ⟨#[]⟩ [] [])]) = 0 ∧ norT (.mk 15 0 0 ⟨#[]⟩ [] [(.mk 3 1 0 ⟨#[]⟩ [] []), (.mk 3 2 0 ⟨#[]⟩ [] [])]) = (.mk 10 0 0 ⟨#[]⟩ [] [(.mk 3 1 0 ⟨#[]⟩ [] []), (.mk 3 2 0 ⟨#[]⟩ [] [])]) := ⟨by decide +kernel, by kernel_rfl⟩
theorem w09_z : checkE (.mk 0 0 0 ⟨#[]⟩ [] []) = 60 := by decide +kernel
theorem w09_f : ¬ alikeP (.mk 3 1 0 ⟨#[]⟩ [] []) (.mk 6 0 0 ⟨#[49]⟩ [] []) := fun h => absurd (show (norT (.mk 3 1 0 ⟨#[]⟩ [] [])).kind = (norT (.mk 6 0 0 ⟨#[49]⟩ [] [])).kind by rw [h.2.2]) (by decide +kernel)
theorem w09_g : ¬ alikeP (.mk 0 0 0 ⟨#[]⟩ [] []) (.mk 0 0 0 ⟨#[]⟩ [] []) := fun h => absurd h.1 (by decide +kernel)
theorem w09_e : checkE (.mk 17 0 0 ⟨#[]⟩ [⟨#[98]⟩, ⟨#[97]⟩] [(.mk 4 0 1 ⟨#[]⟩ [] []), (.mk 5 0 0 ⟨#[120]⟩ [] [])]) = 0 ∧ norT (.mk 17 0 0 ⟨#[]⟩ [⟨#[98]⟩, ⟨#[97]⟩] [(.mk 4 0 1 ⟨#[]⟩ [] []), (.mk 5 0 0 ⟨#[120]⟩ [] [])]) = (.mk 17 0 0 ⟨#[]⟩ [⟨#[97]⟩, ⟨#[98]⟩] [(.mk 6 0 0 ⟨#[120]⟩ [] []), (.mk 3 1 0 ⟨#[]⟩ [] [])]) := ⟨by decide +kernel, by kernel_rfl⟩
theorem w09_h : alikeP (.mk 10 0 0 ⟨#[]⟩ [] [(.mk 4 0 1 ⟨#[]⟩ [] [])]) (.mk 11 0 0 ⟨#[]⟩ [] [(.mk 3 1 0 ⟨#[]⟩ [] [])]) := ⟨by decide +kernel, by decide +kernel, by kernel_rfl⟩
set_option maxRecDepth 100000 in
set_option maxHeartbeats 8000000 in
theorem works09_any (w : World) : Calls Try.prog 14 #[] w fun r w' => r = .returned (.bool true) ∧ Grew w w' := by
  go_enter Try.func14, Try.ntmps14
  have HG := Lib.hid (Grew.refl w)
  go_wp2_with fail
  refine (uns9_any 5 w).mono ?_
  rintro r v1 ⟨rfl, hgc⟩
  replace HG := Lib.hid (HG.out.trans hgc)
  clear hgc
  go_wp2_with fail
  refine (num9_any 5 v1).mono ?_
  rintro r v2 ⟨rfl, hgc⟩
  replace HG := Lib.hid (HG.out.trans hgc)
  clear hgc
  go_wp2_with fail
  refine (is9_any (.mk 4 0 5 ⟨#[]⟩ [] []) (.mk 3 5 0 ⟨#[]⟩ [] []) _ _ v2 (leaf_nd 4 0 5 ⟨#[]⟩ (by unfold i64ok u64ok lenok; decide) _) (leaf_nd 3 5 0 ⟨#[]⟩ (by unfold i64ok u64ok lenok; decide) _) (by decide)).mono ?_
  rintro r v3 ⟨bq, rfl, hbq, hgc⟩
  replace HG := Lib.hid (HG.out.trans hgc)
  clear hgc
  obtain rfl : bq = true := hbq.2 w09_a
  clear hbq
  go_wp2_with fail
  refine (uns9_any 9223372036854775808 v3).mono ?_
  rintro r v4 ⟨rfl, hgc⟩
  replace HG := Lib.hid (HG.out.trans hgc)
  clear hgc
  go_wp2_with fail
  refine (uns9_any 9223372036854775808 v4).mono ?_
  rintro r v5 ⟨rfl, hgc⟩
  replace HG := Lib.hid (HG.out.trans hgc)
  clear hgc
  go_wp2_with fail
  refine (is9_any (.mk 4 0 9223372036854775808 ⟨#[]⟩ [] []) (.mk 4 0 9223372036854775808 ⟨#[]⟩ [] []) _ _ v5 (leaf_nd 4 0 9223372036854775808 ⟨#[]⟩ (by unfold i64ok u64ok lenok; decide) _) (leaf_nd 4 0 9223372036854775808 ⟨#[]⟩ (by unfold i64ok u64ok lenok; decide) _) (by decide)).mono ?_
  rintro r v6 ⟨bq, rfl, hbq, hgc⟩
  replace HG := Lib.hid (HG.out.trans hgc)
  clear hgc
  obtain rfl : bq = true := hbq.2 w09_b
  clear hbq
  go_wp2_with fail
  refine (text9_any ⟨#[97]⟩ v6).mono ?_
  rintro r v7 ⟨rfl, hgc⟩
  replace HG := Lib.hid (HG.out.trans hgc)
  clear hgc
  go_wp2_with fail
  refine (is9_any (.mk 5 0 0 ⟨#[97]⟩ [] []) (.mk 6 0 0 ⟨#[97]⟩ [] []) _ _ v7 (leaf_nd 5 0 0 ⟨#[97]⟩ (by unfold i64ok u64ok lenok; decide) _) (leaf_nd 6 0 0 ⟨#[97]⟩ (by unfold i64ok u64ok lenok; decide) _) (by decide)).mono ?_
  rintro r v8 ⟨bq, rfl, hbq, hgc⟩
  replace HG := Lib.hid (HG.out.trans hgc)
  clear hgc
  obtain rfl : bq = true := hbq.2 w09_c
  clear hbq
  go_wp2_with fail
  refine (num9_any 1 v8).mono ?_
  rintro r v9 ⟨rfl, hgc⟩
  replace HG := Lib.hid (HG.out.trans hgc)
  clear hgc
  go_wp2_with fail
  refine (num9_any 2 v9).mono ?_
  rintro r v10 ⟨rfl, hgc⟩
  replace HG := Lib.hid (HG.out.trans hgc)
  clear hgc
  go_wp2_with fail
  obtain ⟨g1, hs1⟩ : ∃ g, v10.heap.size = g := ⟨_, rfl⟩
  have r1 : Rn [(.mk 3 1 0 ⟨#[]⟩ [] []), (.mk 3 2 0 ⟨#[]⟩ [] [])] (.slice (some ⟨v10.heap.size, 0, none⟩) 2 2) (v10.alloc (.cells #[.int .i64 3, .int .i64 1, .int .u64 0, .string ⟨#[]⟩, .slice none 0 0, .slice none 0 0, .int .i64 3, .int .i64 2, .int .u64 0, .string ⟨#[]⟩, .slice none 0 0, .slice none 0 0] 26)) := built_nodes v10 [(.mk 3 1 0 ⟨#[]⟩ [] []), (.mk 3 2 0 ⟨#[]⟩ [] [])] [.agg #[.int .i64 3, .int .i64 1, .int .u64 0, .string ⟨#[]⟩, .slice none 0 0, .slice none 0 0], .agg #[.int .i64 3, .int .i64 2, .int .u64 0, .string ⟨#[]⟩, .slice none 0 0, .slice none 0 0]] (by intro x hx; simp only [List.mem_cons, List.not_mem_nil, or_false] at hx; rcases hx with rfl | rfl <;> exact ⟨_, _, _, _, _, _, _, _, _, _, rfl⟩) ⟨_, _, rfl, (leaf_nd 3 1 0 ⟨#[]⟩ (by unfold i64ok u64ok lenok; decide) _), ⟨_, _, rfl, (leaf_nd 3 2 0 ⟨#[]⟩ (by unfold i64ok u64ok lenok; decide) _), rfl⟩⟩ (by simp)
  have hg1 := (Grew.refl v10).alloc (.cells #[.int .i64 3, .int .i64 1, .int .u64 0, .string ⟨#[]⟩, .slice none 0 0, .slice none 0 0, .int .i64 3, .int .i64 2, .int .u64 0, .string ⟨#[]⟩, .slice none 0 0, .slice none 0 0] 26)
  have hz1 : (v10.alloc (.cells #[.int .i64 3, .int .i64 1, .int .u64 0, .string ⟨#[]⟩, .slice none 0 0, .slice none 0 0, .int .i64 3, .int .i64 2, .int .u64 0, .string ⟨#[]⟩, .slice none 0 0, .slice none 0 0] 26)).heap.size = v10.heap.size + 1 := World.size_alloc _ _
  generalize (v10.alloc (.cells #[.int .i64 3, .int .i64 1, .int .u64 0, .string ⟨#[]⟩, .slice none 0 0, .slice none 0 0, .int .i64 3, .int .i64 2, .int .u64 0, .string ⟨#[]⟩, .slice none 0 0, .slice none 0 0] 26)) = w1 at *
  rw [hs1] at r1 hz1
  try rw [hs1]
  replace HG := Lib.hid (HG.out.trans hg1)
  clear hg1
  have n1 := vecK_nd 15 (by unfold i64ok; decide) r1
  refine (list9_any 15 _ _ _ w1).mono ?_
  rintro r v11 ⟨rfl, hgc⟩
  replace r1 := Rn.st _ _ _ _ hgc r1
  replace n1 := Nd.st _ _ _ _ hgc n1
  replace HG := Lib.hid (HG.out.trans hgc)
  clear hgc
  go_wp2_with fail
  refine (num9_any 1 v11).mono ?_
  rintro r v12 ⟨rfl, hgc⟩
  replace r1 := Rn.st _ _ _ _ hgc r1
  replace n1 := Nd.st _ _ _ _ hgc n1
  replace HG := Lib.hid (HG.out.trans hgc)
  clear hgc
  go_wp2_with fail
  refine (num9_any 2 v12).mono ?_
  rintro r v13 ⟨rfl, hgc⟩
  replace r1 := Rn.st _ _ _ _ hgc r1
  replace n1 := Nd.st _ _ _ _ hgc n1
  replace HG := Lib.hid (HG.out.trans hgc)
  clear hgc
  go_wp2_with fail
  obtain ⟨g2, hs2⟩ : ∃ g, v13.heap.size = g := ⟨_, rfl⟩
  have r2 : Rn [(.mk 3 1 0 ⟨#[]⟩ [] []), (.mk 3 2 0 ⟨#[]⟩ [] [])] (.slice (some ⟨v13.heap.size, 0, none⟩) 2 2) (v13.alloc (.cells #[.int .i64 3, .int .i64 1, .int .u64 0, .string ⟨#[]⟩, .slice none 0 0, .slice none 0 0, .int .i64 3, .int .i64 2, .int .u64 0, .string ⟨#[]⟩, .slice none 0 0, .slice none 0 0] 26)) := built_nodes v13 [(.mk 3 1 0 ⟨#[]⟩ [] []), (.mk 3 2 0 ⟨#[]⟩ [] [])] [.agg #[.int .i64 3, .int .i64 1, .int .u64 0, .string ⟨#[]⟩, .slice none 0 0, .slice none 0 0], .agg #[.int .i64 3, .int .i64 2, .int .u64 0, .string ⟨#[]⟩, .slice none 0 0, .slice none 0 0]] (by intro x hx; simp only [List.mem_cons, List.not_mem_nil, or_false] at hx; rcases hx with rfl | rfl <;> exact ⟨_, _, _, _, _, _, _, _, _, _, rfl⟩) ⟨_, _, rfl, (leaf_nd 3 1 0 ⟨#[]⟩ (by unfold i64ok u64ok lenok; decide) _), ⟨_, _, rfl, (leaf_nd 3 2 0 ⟨#[]⟩ (by unfold i64ok u64ok lenok; decide) _), rfl⟩⟩ (by simp)
  have hg2 := (Grew.refl v13).alloc (.cells #[.int .i64 3, .int .i64 1, .int .u64 0, .string ⟨#[]⟩, .slice none 0 0, .slice none 0 0, .int .i64 3, .int .i64 2, .int .u64 0, .string ⟨#[]⟩, .slice none 0 0, .slice none 0 0] 26)
  have hz2 : (v13.alloc (.cells #[.int .i64 3, .int .i64 1, .int .u64 0, .string ⟨#[]⟩, .slice none 0 0, .slice none 0 0, .int .i64 3, .int .i64 2, .int .u64 0, .string ⟨#[]⟩, .slice none 0 0, .slice none 0 0] 26)).heap.size = v13.heap.size + 1 := World.size_alloc _ _
  generalize (v13.alloc (.cells #[.int .i64 3, .int .i64 1, .int .u64 0, .string ⟨#[]⟩, .slice none 0 0, .slice none 0 0, .int .i64 3, .int .i64 2, .int .u64 0, .string ⟨#[]⟩, .slice none 0 0, .slice none 0 0] 26)) = w2 at *
  rw [hs2] at r2 hz2
  try rw [hs2]
  replace r1 := Rn.st _ _ _ _ hg2 r1
  replace n1 := Nd.st _ _ _ _ hg2 n1
  replace HG := Lib.hid (HG.out.trans hg2)
  clear hg2
  have n2 := vecK_nd 10 (by unfold i64ok; decide) r2
  refine (list9_any 10 _ _ _ w2).mono ?_
  rintro r v14 ⟨rfl, hgc⟩
  replace r1 := Rn.st _ _ _ _ hgc r1
  replace n1 := Nd.st _ _ _ _ hgc n1
  replace r2 := Rn.st _ _ _ _ hgc r2
  replace n2 := Nd.st _ _ _ _ hgc n2
  replace HG := Lib.hid (HG.out.trans hgc)
  clear hgc
  go_wp2_with fail
  refine (is9_any (.mk 15 0 0 ⟨#[]⟩ [] [(.mk 3 1 0 ⟨#[]⟩ [] []), (.mk 3 2 0 ⟨#[]⟩ [] [])]) (.mk 10 0 0 ⟨#[]⟩ [] [(.mk 3 1 0 ⟨#[]⟩ [] []), (.mk 3 2 0 ⟨#[]⟩ [] [])]) _ _ v14 n1 n2 (by decide)).mono ?_
  rintro r v15 ⟨bq, rfl, hbq, hgc⟩
  replace r1 := Rn.st _ _ _ _ hgc r1
  replace n1 := Nd.st _ _ _ _ hgc n1
  replace r2 := Rn.st _ _ _ _ hgc r2
  replace n2 := Nd.st _ _ _ _ hgc n2
  replace HG := Lib.hid (HG.out.trans hgc)
  clear hgc
  obtain rfl : bq = true := hbq.2 w09_d
  clear hbq
  go_wp2_with fail
  clear r1 r2 n1 n2
  obtain ⟨g3, hs3⟩ : ∃ g, v15.heap.size = g := ⟨_, rfl⟩
  have s3 : Ss [⟨#[98]⟩, ⟨#[97]⟩] (.slice (some ⟨v15.heap.size, 0, none⟩) 2 2) (v15.alloc (.cells #[.string ⟨#[98]⟩, .string ⟨#[97]⟩] 9)) := built_strs v15 [⟨#[98]⟩, ⟨#[97]⟩] (lenoks9 _ (by decide)) (by decide)
  have hg3 := (Grew.refl v15).alloc (.cells #[.string ⟨#[98]⟩, .string ⟨#[97]⟩] 9)
  have hz3 : (v15.alloc (.cells #[.string ⟨#[98]⟩, .string ⟨#[97]⟩] 9)).heap.size = v15.heap.size + 1 := World.size_alloc _ _
  generalize (v15.alloc (.cells #[.string ⟨#[98]⟩, .string ⟨#[97]⟩] 9)) = w3 at *
  rw [hs3] at s3 hz3
  try rw [hs3]
  replace HG := Lib.hid (HG.out.trans hg3)
  clear hg3
  refine (uns9_any 1 w3).mono ?_
  rintro r v16 ⟨rfl, hgc⟩
  replace s3 := Ss.st _ _ _ _ hgc s3
  replace HG := Lib.hid (HG.out.trans hgc)
  clear hgc
  go_wp2_with fail
  obtain ⟨g4, hs4⟩ : ∃ g, v16.heap.size = g := ⟨_, rfl⟩
  have r3 : Rn [(.mk 4 0 1 ⟨#[]⟩ [] []), (.mk 5 0 0 ⟨#[120]⟩ [] [])] (.slice (some ⟨v16.heap.size, 0, none⟩) 2 2) (v16.alloc (.cells #[.int .i64 4, .int .i64 0, .int .u64 1, .string ⟨#[]⟩, .slice none 0 0, .slice none 0 0, .int .i64 5, .int .i64 0, .int .u64 0, .string ⟨#[120]⟩, .slice none 0 0, .slice none 0 0] 26)) := built_nodes v16 [(.mk 4 0 1 ⟨#[]⟩ [] []), (.mk 5 0 0 ⟨#[120]⟩ [] [])] [.agg #[.int .i64 4, .int .i64 0, .int .u64 1, .string ⟨#[]⟩, .slice none 0 0, .slice none 0 0], .agg #[.int .i64 5, .int .i64 0, .int .u64 0, .string ⟨#[120]⟩, .slice none 0 0, .slice none 0 0]] (by intro x hx; simp only [List.mem_cons, List.not_mem_nil, or_false] at hx; rcases hx with rfl | rfl <;> exact ⟨_, _, _, _, _, _, _, _, _, _, rfl⟩) ⟨_, _, rfl, (leaf_nd 4 0 1 ⟨#[]⟩ (by unfold i64ok u64ok lenok; decide) _), ⟨_, _, rfl, (leaf_nd 5 0 0 ⟨#[120]⟩ (by unfold i64ok u64ok lenok; decide) _), rfl⟩⟩ (by simp)
  have hg4 := (Grew.refl v16).alloc (.cells #[.int .i64 4, .int .i64 0, .int .u64 1, .string ⟨#[]⟩, .slice none 0 0, .slice none 0 0, .int .i64 5, .int .i64 0, .int .u64 0, .string ⟨#[120]⟩, .slice none 0 0, .slice none 0 0] 26)
  have hz4 : (v16.alloc (.cells #[.int .i64 4, .int .i64 0, .int .u64 1, .string ⟨#[]⟩, .slice none 0 0, .slice none 0 0, .int .i64 5, .int .i64 0, .int .u64 0, .string ⟨#[120]⟩, .slice none 0 0, .slice none 0 0] 26)).heap.size = v16.heap.size + 1 := World.size_alloc _ _
  generalize (v16.alloc (.cells #[.int .i64 4, .int .i64 0, .int .u64 1, .string ⟨#[]⟩, .slice none 0 0, .slice none 0 0, .int .i64 5, .int .i64 0, .int .u64 0, .string ⟨#[120]⟩, .slice none 0 0, .slice none 0 0] 26)) = w4 at *
  rw [hs4] at r3 hz4
  try rw [hs4]
  replace s3 := Ss.st _ _ _ _ hg4 s3
  replace HG := Lib.hid (HG.out.trans hg4)
  clear hg4
  have nin := table_nd s3 r3
  have hs5 := hz4
  have hvt := heap_alloc_new w4 (.cells #[.int .i64 17, .int .i64 0, .int .u64 0, .string ⟨#[]⟩, .slice (some ⟨g3, 0, none⟩) 2 2, .slice (some ⟨g4, 0, none⟩) 2 2] 26)
  have hg5 := (Grew.refl w4).alloc (.cells #[.int .i64 17, .int .i64 0, .int .u64 0, .string ⟨#[]⟩, .slice (some ⟨g3, 0, none⟩) 2 2, .slice (some ⟨g4, 0, none⟩) 2 2] 26)
  have hz5 : (w4.alloc (.cells #[.int .i64 17, .int .i64 0, .int .u64 0, .string ⟨#[]⟩, .slice (some ⟨g3, 0, none⟩) 2 2, .slice (some ⟨g4, 0, none⟩) 2 2] 26)).heap.size = w4.heap.size + 1 := World.size_alloc _ _
  generalize (w4.alloc (.cells #[.int .i64 17, .int .i64 0, .int .u64 0, .string ⟨#[]⟩, .slice (some ⟨g3, 0, none⟩) 2 2, .slice (some ⟨g4, 0, none⟩) 2 2] 26)) = w5 at *
  rw [hs5] at hvt hz5
  try rw [hs5]
  replace s3 := Ss.st _ _ _ _ hg5 s3
  replace r3 := Rn.st _ _ _ _ hg5 r3
  replace nin := Nd.st _ _ _ _ hg5 nin
  replace HG := Lib.hid (HG.out.trans hg5)
  clear hg5
  clear s3 r3
  refine (Of_any (.mk 0 0 0 ⟨#[]⟩ [] []) _ w5 (leaf_nd 0 0 0 ⟨#[]⟩ (by unfold i64ok u64ok lenok; decide) _) (by decide)).mono ?_
  intro r v17 hs
  obtain ⟨hgc, rfl⟩ : Grew w5 v17 ∧ r = .returned (.tuple #[zeroNode, .int .i64 60]) := by
    rcases hs.2 with ⟨_, e⟩ | ⟨e, _⟩
    · exact ⟨hs.1, by rw [e, w09_z]⟩
    · rw [w09_z] at e; cases e
  clear hs
  replace nin := Nd.st _ _ _ _ hgc nin
  replace hvt := hgc.heap hvt
  replace HG := Lib.hid (HG.out.trans hgc)
  clear hgc
  rw [show zeroNode = .agg #[.int .i64 0, .int .i64 0, .int .u64 0, .string ⟨#[]⟩, .slice none 0 0, .slice none 0 0] from rfl]
  go_upto_region 5 with fail
  obtain ⟨g6, hs6⟩ : ∃ g, v17.heap.size = g := ⟨_, rfl⟩
  have hvz := heap_alloc_new v17 (.cells #[.int .i64 0, .int .i64 0, .int .u64 0, .string ⟨#[]⟩, .slice none 0 0, .slice none 0 0] 26)
  have hg6 := (Grew.refl v17).alloc (.cells #[.int .i64 0, .int .i64 0, .int .u64 0, .string ⟨#[]⟩, .slice none 0 0, .slice none 0 0] 26)
  have hz6 : (v17.alloc (.cells #[.int .i64 0, .int .i64 0, .int .u64 0, .string ⟨#[]⟩, .slice none 0 0, .slice none 0 0] 26)).heap.size = v17.heap.size + 1 := World.size_alloc _ _
  generalize (v17.alloc (.cells #[.int .i64 0, .int .i64 0, .int .u64 0, .string ⟨#[]⟩, .slice none 0 0, .slice none 0 0] 26)) = w6 at *
  rw [hs6] at hvz hz6
  try rw [hs6]
  replace nin := Nd.st _ _ _ _ hg6 nin
  replace hvt := hg6.heap hvt
  replace HG := Lib.hid (HG.out.trans hg6)
  clear hg6
  clear hvz
  have a0 := row_cellT hvt 0 _ rfl
  have a1 := row_cellT hvt 1 _ rfl
  have a2 := row_cellT hvt 2 _ rfl
  have a3 := row_cellT hvt 3 _ rfl
  have a4 := row_cellT hvt 4 _ rfl
  have a5 := row_cellT hvt 5 _ rfl
  clear hvt
  refine wp_region_tables Grew [[], [], [], [2], [2, 3], [1, 2, 3, 4], [0, 1, 2, 3, 4, 5], [0, 1, 2, 3, 4, 5, 6], [0, 1, 2, 3, 4, 5, 6, 7], [0, 1, 2, 3, 4, 5, 6, 7, 8], [0, 1, 2, 3, 4, 5, 6, 7, 8, 9], [0, 1, 2, 3, 4, 5, 6, 7, 8, 9, 10], [0, 1, 2, 3, 4, 5, 6, 7, 8, 9, 10, 11], [0, 1, 2, 3, 4, 5, 6, 7, 8, 9, 10, 11, 12], [0, 1, 2, 3, 4, 5, 6, 7, 8, 9, 10, 11, 12, 13], [0, 1, 2, 3, 4, 5, 6, 7, 8, 9, 10, 11, 12, 13, 14], [0, 1, 2, 3, 4, 5, 6, 7, 8, 9, 10, 11, 12, 13, 14, 15], [0, 1, 2, 3, 4, 5, 6, 7, 8, 9, 10, 11, 12, 13, 14, 15, 16], [0, 1, 2, 3, 4, 5, 6, 7, 8, 9, 10, 11, 12, 13, 14, 15, 16, 17], [0, 1, 2, 3, 4, 5, 6, 7, 8, 9, 10, 11, 12, 13, 14, 15, 16, 17, 18], [0, 1, 2, 3, 4, 5, 6, 7, 8, 9, 10, 11, 12, 13, 14, 15, 16, 17, 18, 19], [0, 1, 2, 3, 4, 5, 6, 7, 8, 9, 10, 11, 12, 13, 14, 15, 16, 17, 18, 19, 20], [0, 1, 2, 3, 4, 5, 6, 7, 8, 9, 10, 11, 12, 13, 14, 15, 16, 17, 18, 19, 20, 21], [0, 1, 2, 3, 4, 5, 6, 7, 8, 9, 10, 11, 12, 13, 14, 15, 16, 17, 18, 19, 20, 21, 22], [0, 1, 2, 3, 4, 5, 6, 7, 8, 9, 10, 11, 12, 13, 14, 15, 16, 17, 18, 19, 20, 21, 22, 23], [0, 1, 2, 3, 4, 5, 6, 7, 8, 9, 10, 11, 12, 13, 14, 15, 16, 17, 18, 19, 20, 21, 22, 23, 24], [0, 1, 2, 3, 4, 5, 6, 7, 8, 9, 10, 11, 12, 13, 14, 15, 16, 17, 18, 19, 20, 21, 22, 23, 24, 25], [0, 1, 2, 3, 4, 5, 6, 7, 8, 9, 10, 11, 12, 13, 14, 15, 16, 17, 18, 19, 20, 21, 22, 23, 24, 25, 26], [0, 1, 2, 3, 4, 5, 6, 7, 8, 9, 10, 11, 12, 13, 14, 15, 16, 17, 18, 19, 20, 21, 22, 23, 24, 25, 26], [0, 1, 2, 3, 4, 5, 6, 7, 8, 9, 10, 11, 12, 13, 14, 15, 16, 17, 18, 19, 20, 21, 22, 23, 24, 25, 26, 27, 28], [0, 1, 2, 3, 4, 5, 6, 7, 8, 9, 10, 11, 12, 13, 14, 15, 16, 17, 18, 19, 20, 21, 22, 23, 24, 25, 26, 27, 28, 29], [0, 1, 2, 3, 4, 5, 6, 7, 8, 9, 10, 11, 12, 13, 14, 15, 16, 17, 18, 19, 20, 21, 22, 23, 24, 25, 26, 27, 28, 29, 30], [0, 1, 2, 3, 4, 5, 6, 7, 8, 9, 10, 11, 12, 13, 14, 15, 16, 17, 18, 19, 20, 21, 22, 23, 24, 25, 26, 27, 28, 29, 30, 31]] [[(43, 1), (44, 2), (45, 3), (46, 4), (47, 5)], [(42, 0), (44, 2), (45, 3), (46, 4)], [(42, 0), (43, 1)], [(42, 0), (43, 1), (44, 2)], [(42, 0), (43, 1), (44, 2), (45, 3)], [(42, 0), (43, 1), (44, 2), (45, 3), (46, 4)], [(42, 0), (43, 1), (44, 2), (45, 3), (46, 4), (47, 5)], [(42, 0), (43, 1), (44, 2), (45, 3), (46, 4), (47, 5), (48, 6)], [(42, 0), (43, 1), (44, 2), (45, 3), (46, 4), (47, 5), (48, 6), (49, 7)], [(42, 0), (43, 1), (44, 2), (45, 3), (46, 4), (47, 5), (48, 6), (49, 7), (50, 8)], [(42, 0), (43, 1), (44, 2), (45, 3), (46, 4), (47, 5), (48, 6), (49, 7), (50, 8), (51, 9)], [(42, 0), (43, 1), (44, 2), (45, 3), (46, 4), (47, 5), (48, 6), (49, 7), (50, 8), (51, 9), (52, 10)], [(42, 0), (43, 1), (44, 2), (45, 3), (46, 4), (47, 5), (48, 6), (49, 7), (50, 8), (51, 9), (52, 10), (53, 11)], [(42, 0), (43, 1), (44, 2), (45, 3), (46, 4), (47, 5), (48, 6), (49, 7), (50, 8), (51, 9), (52, 10), (53, 11), (54, 12)], [(42, 0), (43, 1), (44, 2), (45, 3), (46, 4), (47, 5), (48, 6), (49, 7), (50, 8), (51, 9), (52, 10), (53, 11), (54, 12), (55, 13)], [(42, 0), (43, 1), (44, 2), (45, 3), (46, 4), (47, 5), (48, 6), (49, 7), (50, 8), (51, 9), (52, 10), (53, 11), (54, 12), (55, 13), (56, 14)], [(42, 0), (43, 1), (44, 2), (45, 3), (46, 4), (47, 5), (48, 6), (49, 7), (50, 8), (51, 9), (52, 10), (53, 11), (54, 12), (55, 13), (56, 14), (57, 15)], [(42, 0), (43, 1), (44, 2), (45, 3), (46, 4), (47, 5), (48, 6), (49, 7), (50, 8), (51, 9), (52, 10), (53, 11), (54, 12), (55, 13), (56, 14), (57, 15), (58, 16)], [(42, 0), (43, 1), (44, 2), (45, 3), (46, 4), (47, 5), (48, 6), (49, 7), (50, 8), (51, 9), (52, 10), (53, 11), (54, 12), (55, 13), (56, 14), (57, 15), (58, 16), (59, 17)], [(42, 0), (43, 1), (44, 2), (45, 3), (46, 4), (47, 5), (48, 6), (49, 7), (50, 8), (51, 9), (52, 10), (53, 11), (54, 12), (55, 13), (56, 14), (57, 15), (58, 16), (59, 17), (60, 18)], [(42, 0), (43, 1), (44, 2), (45, 3), (46, 4), (47, 5), (48, 6), (49, 7), (50, 8), (51, 9), (52, 10), (53, 11), (54, 12), (55, 13), (56, 14), (57, 15), (58, 16), (59, 17), (60, 18), (61, 19)], [(42, 0), (43, 1), (44, 2), (45, 3), (46, 4), (47, 5), (48, 6), (49, 7), (50, 8), (51, 9), (52, 10), (53, 11), (54, 12), (55, 13), (56, 14), (57, 15), (58, 16), (59, 17), (60, 18), (61, 19), (62, 20)], [(42, 0), (43, 1), (44, 2), (45, 3), (46, 4), (47, 5), (48, 6), (49, 7), (50, 8), (51, 9), (52, 10), (53, 11), (54, 12), (55, 13), (56, 14), (57, 15), (58, 16), (59, 17), (60, 18), (61, 19), (62, 20), (63, 21)], [(42, 0), (43, 1), (44, 2), (45, 3), (46, 4), (47, 5), (48, 6), (49, 7), (50, 8), (51, 9), (52, 10), (53, 11), (54, 12), (55, 13), (56, 14), (57, 15), (58, 16), (59, 17), (60, 18), (61, 19), (62, 20), (63, 21), (64, 22)], [(42, 0), (43, 1), (44, 2), (45, 3), (46, 4), (47, 5), (48, 6), (49, 7), (50, 8), (51, 9), (52, 10), (53, 11), (54, 12), (55, 13), (56, 14), (57, 15), (58, 16), (59, 17), (60, 18), (61, 19), (62, 20), (63, 21), (64, 22), (65, 23)], [(42, 0), (43, 1), (44, 2), (45, 3), (46, 4), (47, 5), (48, 6), (49, 7), (50, 8), (51, 9), (52, 10), (53, 11), (54, 12), (55, 13), (56, 14), (57, 15), (58, 16), (59, 17), (60, 18), (61, 19), (62, 20), (63, 21), (64, 22), (65, 23), (66, 24)], [(42, 0), (43, 1), (44, 2), (45, 3), (46, 4), (47, 5), (48, 6), (49, 7), (50, 8), (51, 9), (52, 10), (53, 11), (54, 12), (55, 13), (56, 14), (57, 15), (58, 16), (59, 17), (60, 18), (61, 19), (62, 20), (63, 21), (64, 22), (65, 23), (66, 24), (67, 25)], [(42, 0), (43, 1), (44, 2), (45, 3), (46, 4), (47, 5), (48, 6), (49, 7), (50, 8), (51, 9), (52, 10), (53, 11), (54, 12), (55, 13), (56, 14), (57, 15), (58, 16), (59, 17), (60, 18), (61, 19), (62, 20), (63, 21), (64, 22), (65, 23), (66, 24), (67, 25), (68, 26), (70, 28)], [(42, 0), (43, 1), (44, 2), (45, 3), (46, 4), (47, 5), (48, 6), (49, 7), (50, 8), (51, 9), (52, 10), (53, 11), (54, 12), (55, 13), (56, 14), (57, 15), (58, 16), (59, 17), (60, 18), (61, 19), (62, 20), (63, 21), (64, 22), (65, 23), (66, 24), (67, 25), (68, 26), (69, 27)], [(42, 0), (43, 1), (44, 2), (45, 3), (46, 4), (47, 5), (48, 6), (49, 7), (50, 8), (51, 9), (52, 10), (53, 11), (54, 12), (55, 13), (56, 14), (57, 15), (58, 16), (59, 17), (60, 18), (61, 19), (62, 20), (63, 21), (64, 22), (65, 23), (66, 24), (67, 25), (68, 26), (69, 27), (70, 28)], [(42, 0), (43, 1), (44, 2), (45, 3), (46, 4), (47, 5), (48, 6), (49, 7), (50, 8), (51, 9), (52, 10), (53, 11), (54, 12), (55, 13), (56, 14), (57, 15), (58, 16), (59, 17), (60, 18), (61, 19), (62, 20), (63, 21), (64, 22), (65, 23), (66, 24), (67, 25), (68, 26), (69, 27), (70, 28), (71, 29)], [(42, 0), (43, 1), (44, 2), (45, 3), (46, 4), (47, 5), (48, 6), (49, 7), (50, 8), (51, 9), (52, 10), (53, 11), (54, 12), (55, 13), (56, 14), (57, 15), (58, 16), (59, 17), (60, 18), (61, 19), (62, 20), (63, 21), (64, 22), (65, 23), (66, 24), (67, 25), (68, 26), (69, 27), (70, 28), (71, 29), (72, 30)], [(42, 0), (43, 1), (44, 2), (45, 3), (46, 4), (47, 5), (48, 6), (49, 7), (50, 8), (51, 9), (52, 10), (53, 11), (54, 12), (55, 13), (56, 14), (57, 15), (58, 16), (59, 17), (60, 18), (61, 19), (62, 20), (63, 21), (64, 22), (65, 23), (66, 24), (67, 25), (68, 26), (69, 27), (70, 28), (71, 29), (72, 30), (73, 31)]] [(42, 0), (43, 1), (44, 2), (45, 3), (46, 4), (47, 5), (48, 6), (49, 7), (50, 8), (51, 9), (52, 10), (53, 11), (54, 12), (55, 13), (56, 14), (57, 15), (58, 16), (59, 17), (60, 18), (61, 19), (62, 20), (63, 21), (64, 22), (65, 23), (66, 24), (67, 25), (68, 26), (69, 27), (70, 28), (71, 29), (72, 30), (73, 31), (0, 32)]
    [Is (.agg #[.int .i64 17, .int .i64 0, .int .u64 0, .string ⟨#[]⟩, .slice (some ⟨g3, 0, none⟩) 2 2, .slice (some ⟨g4, 0, none⟩) 2 2]), SsX 2 [⟨#[97]⟩, ⟨#[98]⟩], Is (.agg #[.int .i64 6, .int .i64 0, .int .u64 0, .string ⟨#[120]⟩, .slice none 0 0, .slice none 0 0]), Is (.agg #[.int .i64 3, .int .i64 1, .int .u64 0, .string ⟨#[]⟩, .slice none 0 0, .slice none 0 0]), RnX 2 [(.mk 6 0 0 ⟨#[120]⟩ [] []), (.mk 3 1 0 ⟨#[]⟩ [] [])], Nd (.mk 17 0 0 ⟨#[]⟩ [⟨#[97]⟩, ⟨#[98]⟩] [(.mk 6 0 0 ⟨#[120]⟩ [] []), (.mk 3 1 0 ⟨#[]⟩ [] [])]), Is (.bool true), Is (.bool true), Is (.int .i64 60), Is (.bool true), Is (.bool true), Is (.bool true), Is (.agg #[.int .i64 4, .int .i64 0, .int .u64 1, .string ⟨#[]⟩, .slice none 0 0, .slice none 0 0]), RnX 1 [(.mk 4 0 1 ⟨#[]⟩ [] [])], Nd (.mk 10 0 0 ⟨#[]⟩ [] [(.mk 4 0 1 ⟨#[]⟩ [] [])]), Is (.agg #[.int .i64 3, .int .i64 1, .int .u64 0, .string ⟨#[]⟩, .slice none 0 0, .slice none 0 0]), RnX 1 [(.mk 3 1 0 ⟨#[]⟩ [] [])], Nd (.mk 11 0 0 ⟨#[]⟩ [] [(.mk 3 1 0 ⟨#[]⟩ [] [])]), Is (.bool true), Is (.bool true), Is (.bool true), Is (.agg #[.int .i64 3, .int .i64 1, .int .u64 0, .string ⟨#[]⟩, .slice none 0 0, .slice none 0 0]), Is (.agg #[.int .i64 6, .int .i64 0, .int .u64 0, .string ⟨#[49]⟩, .slice none 0 0, .slice none 0 0]), Is (.bool false), Is (.bool true), Is (.bool true), Is (.bool true), Is (.agg #[.int .i64 0, .int .i64 0, .int .u64 0, .string ⟨#[]⟩, .slice none 0 0, .slice none 0 0]), Is (.agg #[.int .i64 0, .int .i64 0, .int .u64 0, .string ⟨#[]⟩, .slice none 0 0, .slice none 0 0]), Is (.bool false), Is (.bool true), Is (.bool true), Is (.bool true)]
    (by kernel_rfl) Grew.trans Grew.refl (Grew.refl _).drew (by kernel_rfl) ⟨is_st, SsX.st _ _, is_st, is_st, RnX.st _ _, Nd.st _, is_st, is_st, is_st, is_st, is_st, is_st, is_st, RnX.st _ _, Nd.st _, is_st, RnX.st _ _, Nd.st _, is_st, is_st, is_st, is_st, is_st, is_st, is_st, is_st, is_st, is_st, is_st, is_st, is_st, is_st, is_st, trivial⟩ ?_ rfl ?_
  rotate_left
  · intro y w2 hG hF
    simp only [factsH, Is, and_true, Nat.reduceAdd] at hF
    have hlast := hF.2.2.2.2.2.2.2.2.2.2.2.2.2.2.2.2.2.2.2.2.2.2.2.2.2.2.2.2.2.2.2.2
    clear hF
    simp only [fillL, Act.put, List.setIfInBounds_toArray, List.set_cons_zero, List.set_cons_succ, List.getD_cons_zero, List.getD_cons_succ, hlast]
    replace HG := Lib.hid (HG.out.trans hG)
    clear hG hlast
    go_wp2_with fail
    go_ret
    exact ⟨rfl, HG.out⟩
  refine ⟨?_, ?_⟩
  · intro y w2 hG hD K hK
    have da0 := hG.cell a0
    have da1 := hG.cell a1
    have da2 := hG.cell a2
    have da3 := hG.cell a3
    have da4 := hG.cell a4
    have da5 := hG.cell a5
    simp only [fillL, Act.put, List.setIfInBounds_toArray, List.set_cons_zero, List.set_cons_succ, List.getD_cons_zero, List.getD_cons_succ, Is] at hK ⊢
    refine ite_yes (by rfl) ?_
    go_simp
    exact hK _ _ _ rfl (Grew.refl _) rfl
  refine ⟨?_, ?_⟩
  · intro y w2 hG hD K hK
    simp only [fillL, Act.put, List.setIfInBounds_toArray, List.set_cons_zero, List.set_cons_succ, List.getD_cons_zero, List.getD_cons_succ, Is] at hK ⊢
    refine ite_yes (by rfl) ?_
    go_simp
    have hbb := built_strs w2 [⟨#[97]⟩, ⟨#[98]⟩] (lenoks9 _ (by decide)) (by decide)
    exact hK _ _ _ rfl ((Grew.refl _).alloc _) ⟨⟨_, rfl⟩, hbb⟩
  refine ⟨?_, ?_⟩
  · intro y w2 hG hD K hK
    simp only [fillL, Act.put, List.setIfInBounds_toArray, List.set_cons_zero, List.set_cons_succ, List.getD_cons_zero, List.getD_cons_succ, Is] at hK ⊢
    refine ite_yes (by rfl) ?_
    go_simp
    refine (text9_any ⟨#[120]⟩ _).mono ?_
    rintro r w3 ⟨rfl, hg3⟩
    exact hK _ _ _ rfl hg3 rfl
  refine ⟨?_, ?_⟩
  · intro y w2 hG hD K hK
    simp only [depsH, List.getD_cons_zero, List.getD_cons_succ, Is, and_true] at hD
    have h2 := hD
    clear hD
    simp only [fillL, Act.put, List.setIfInBounds_toArray, List.set_cons_zero, List.set_cons_succ, List.getD_cons_zero, List.getD_cons_succ, Is] at hK ⊢
    simp only [h2] at hK ⊢
    clear h2
    refine ite_yes (by rfl) ?_
    go_simp
    refine (num9_any 1 _).mono ?_
    rintro r w3 ⟨rfl, hg3⟩
    exact hK _ _ _ rfl hg3 rfl
  refine ⟨?_, ?_⟩
  · intro y w2 hG hD K hK
    simp only [depsH, List.getD_cons_zero, List.getD_cons_succ, Is, and_true] at hD
    have h2 := hD.1
    have h3 := hD.2
    clear hD
    simp only [fillL, Act.put, List.setIfInBounds_toArray, List.set_cons_zero, List.set_cons_succ, List.getD_cons_zero, List.getD_cons_succ, Is] at hK ⊢
    simp only [h2, h3] at hK ⊢
    clear h2 h3
    refine ite_yes (by rfl) ?_
    go_simp
    have hbb := built_nodes w2 [(.mk 6 0 0 ⟨#[120]⟩ [] []), (.mk 3 1 0 ⟨#[]⟩ [] [])] [.agg #[.int .i64 6, .int .i64 0, .int .u64 0, .string ⟨#[120]⟩, .slice none 0 0, .slice none 0 0], .agg #[.int .i64 3, .int .i64 1, .int .u64 0, .string ⟨#[]⟩, .slice none 0 0, .slice none 0 0]] (by intro x hx; simp only [List.mem_cons, List.not_mem_nil, or_false] at hx; rcases hx with rfl | rfl <;> exact ⟨_, _, _, _, _, _, _, _, _, _, rfl⟩) ⟨_, _, rfl, (leaf_nd 6 0 0 ⟨#[120]⟩ (by unfold i64ok u64ok lenok; decide) _), ⟨_, _, rfl, (leaf_nd 3 1 0 ⟨#[]⟩ (by unfold i64ok u64ok lenok; decide) _), rfl⟩⟩ (by simp)
    exact hK _ _ _ rfl ((Grew.refl _).alloc _) ⟨⟨_, rfl⟩, hbb⟩
  refine ⟨?_, ?_⟩
  · intro y w2 hG hD K hK
    simp only [depsH, List.getD_cons_zero, List.getD_cons_succ, Is, and_true] at hD
    have h1 := hD.1
    have h2 := hD.2.1
    have h3 := hD.2.2.1
    have h4 := hD.2.2.2
    clear hD
    simp only [fillL, Act.put, List.setIfInBounds_toArray, List.set_cons_zero, List.set_cons_succ, List.getD_cons_zero, List.getD_cons_succ, Is] at hK ⊢
    simp only [h2, h3] at hK ⊢
    clear h2 h3
    refine ite_yes (by rfl) ?_
    skip
    obtain ⟨⟨gq, eq⟩, hq⟩ := h1
    obtain ⟨⟨gr, er⟩, hr⟩ := h4
    rw [eq] at hq
    rw [er] at hr
    simp only [eq, er] at hK ⊢
    go_simp
    exact hK _ _ _ rfl (Grew.refl _) (table_nd hq hr)
  refine ⟨?_, ?_⟩
  · intro y w2 hG hD K hK
    simp only [depsH, List.getD_cons_zero, List.getD_cons_succ, Is, and_true] at hD
    have h0 := hD.1
    have h1 := hD.2.1
    have h2 := hD.2.2.1
    have h3 := hD.2.2.2.1
    have h4 := hD.2.2.2.2.1
    have h5 := hD.2.2.2.2.2
    clear hD
    simp only [fillL, Act.put, List.setIfInBounds_toArray, List.set_cons_zero, List.set_cons_succ, List.getD_cons_zero, List.getD_cons_succ, Is] at hK ⊢
    simp only [h0, h2, h3] at hK ⊢
    clear h0 h2 h3
    refine ite_yes (by rfl) ?_
    go_simp
    refine (is9_any (.mk 17 0 0 ⟨#[]⟩ [⟨#[98]⟩, ⟨#[97]⟩] [(.mk 4 0 1 ⟨#[]⟩ [] []), (.mk 5 0 0 ⟨#[120]⟩ [] [])]) (.mk 17 0 0 ⟨#[]⟩ [⟨#[97]⟩, ⟨#[98]⟩] [(.mk 6 0 0 ⟨#[120]⟩ [] []), (.mk 3 1 0 ⟨#[]⟩ [] [])]) _ _ w2 (Nd.st _ _ _ _ hG nin) h5 (by decide)).mono ?_
    rintro r w3 ⟨bq, rfl, hbq, hg3⟩
    obtain rfl : bq = true := hbq.2 w09_e
    exact hK _ _ _ rfl hg3 rfl
  refine ⟨?_, ?_⟩
  · intro y w2 hG hD K hK
    simp only [depsH, List.getD_cons_zero, List.getD_cons_succ, Is, and_true] at hD
    have h0 := hD.1
    have h1 := hD.2.1
    have h2 := hD.2.2.1
    have h3 := hD.2.2.2.1
    have h4 := hD.2.2.2.2.1
    have h5 := hD.2.2.2.2.2.1
    have h6 := hD.2.2.2.2.2.2
    clear hD
    simp only [fillL, Act.put, List.setIfInBounds_toArray, List.set_cons_zero, List.set_cons_succ, List.getD_cons_zero, List.getD_cons_succ, Is] at hK ⊢
    simp only [h0, h2, h3, h6] at hK ⊢
    clear h0 h2 h3 h6
    refine ite_yes (by rfl) ?_
    go_simp
    exact hK _ _ _ rfl (Grew.refl _) rfl
  refine ⟨?_, ?_⟩
  · intro y w2 hG hD K hK
    simp only [depsH, List.getD_cons_zero, List.getD_cons_succ, Is, and_true] at hD
    have h0 := hD.1
    have h1 := hD.2.1
    have h2 := hD.2.2.1
    have h3 := hD.2.2.2.1
    have h4 := hD.2.2.2.2.1
    have h5 := hD.2.2.2.2.2.1
    have h6 := hD.2.2.2.2.2.2.1
    have h7 := hD.2.2.2.2.2.2.2
    clear hD
    simp only [fillL, Act.put, List.setIfInBounds_toArray, List.set_cons_zero, List.set_cons_succ, List.getD_cons_zero, List.getD_cons_succ, Is] at hK ⊢
    simp only [h0, h2, h3, h6, h7] at hK ⊢
    clear h0 h2 h3 h6 h7
    refine ite_yes (by rfl) ?_
    go_simp
    exact hK _ _ _ rfl (Grew.refl _) rfl
  refine ⟨?_, ?_⟩
  · intro y w2 hG hD K hK
    simp only [depsH, List.getD_cons_zero, List.getD_cons_succ, Is, and_true] at hD
    have h0 := hD.1
    have h1 := hD.2.1
    have h2 := hD.2.2.1
    have h3 := hD.2.2.2.1
    have h4 := hD.2.2.2.2.1
    have h5 := hD.2.2.2.2.2.1
    have h6 := hD.2.2.2.2.2.2.1
    have h7 := hD.2.2.2.2.2.2.2.1
    have h8 := hD.2.2.2.2.2.2.2.2
    clear hD
    simp only [fillL, Act.put, List.setIfInBounds_toArray, List.set_cons_zero, List.set_cons_succ, List.getD_cons_zero, List.getD_cons_succ, Is] at hK ⊢
    simp only [h0, h2, h3, h6, h7, h8] at hK ⊢
    clear h0 h2 h3 h6 h7 h8
    refine ite_yes (by rfl) ?_
    go_simp
    exact hK _ _ _ rfl (Grew.refl _) rfl
  refine ⟨?_, ?_⟩
  · intro y w2 hG hD K hK
    simp only [depsH, List.getD_cons_zero, List.getD_cons_succ, Is, and_true] at hD
    have h0 := hD.1
    have h1 := hD.2.1
    have h2 := hD.2.2.1
    have h3 := hD.2.2.2.1
    have h4 := hD.2.2.2.2.1
    have h5 := hD.2.2.2.2.2.1
    have h6 := hD.2.2.2.2.2.2.1
    have h7 := hD.2.2.2.2.2.2.2.1
    have h8 := hD.2.2.2.2.2.2.2.2.1
    have h9 := hD.2.2.2.2.2.2.2.2.2
    clear hD
    simp only [fillL, Act.put, List.setIfInBounds_toArray, List.set_cons_zero, List.set_cons_succ, List.getD_cons_zero, List.getD_cons_succ, Is] at hK ⊢
    simp only [h0, h2, h3, h6, h7, h8, h9] at hK ⊢
    clear h0 h2 h3 h6 h7 h8 h9
    refine ite_yes (by rfl) ?_
    go_simp
    exact hK _ _ _ rfl (Grew.refl _) rfl
  refine ⟨?_, ?_⟩
  · intro y w2 hG hD K hK
    simp only [depsH, List.getD_cons_zero, List.getD_cons_succ, Is, and_true] at hD
    have h0 := hD.1
    have h1 := hD.2.1
    have h2 := hD.2.2.1
    have h3 := hD.2.2.2.1
    have h4 := hD.2.2.2.2.1
    have h5 := hD.2.2.2.2.2.1
    have h6 := hD.2.2.2.2.2.2.1
    have h7 := hD.2.2.2.2.2.2.2.1
    have h8 := hD.2.2.2.2.2.2.2.2.1
    have h9 := hD.2.2.2.2.2.2.2.2.2.1
    have h10 := hD.2.2.2.2.2.2.2.2.2.2
    clear hD
    simp only [fillL, Act.put, List.setIfInBounds_toArray, List.set_cons_zero, List.set_cons_succ, List.getD_cons_zero, List.getD_cons_succ, Is] at hK ⊢
    simp only [h0, h2, h3, h6, h7, h8, h9, h10] at hK ⊢
    clear h0 h2 h3 h6 h7 h8 h9 h10
    refine ite_yes (by rfl) ?_
    go_simp
    exact hK _ _ _ rfl (Grew.refl _) rfl
  refine ⟨?_, ?_⟩
  · intro y w2 hG hD K hK
    simp only [depsH, List.getD_cons_zero, List.getD_cons_succ, Is, and_true] at hD
    have h0 := hD.1
    have h1 := hD.2.1
    have h2 := hD.2.2.1
    have h3 := hD.2.2.2.1
    have h4 := hD.2.2.2.2.1
    have h5 := hD.2.2.2.2.2.1
    have h6 := hD.2.2.2.2.2.2.1
    have h7 := hD.2.2.2.2.2.2.2.1
    have h8 := hD.2.2.2.2.2.2.2.2.1
    have h9 := hD.2.2.2.2.2.2.2.2.2.1
    have h10 := hD.2.2.2.2.2.2.2.2.2.2.1
    have h11 := hD.2.2.2.2.2.2.2.2.2.2.2
    clear hD
    simp only [fillL, Act.put, List.setIfInBounds_toArray, List.set_cons_zero, List.set_cons_succ, List.getD_cons_zero, List.getD_cons_succ, Is] at hK ⊢
    simp only [h0, h2, h3, h6, h7, h8, h9, h10, h11] at hK ⊢
    clear h0 h2 h3 h6 h7 h8 h9 h10 h11
    refine ite_yes (by rfl) ?_
    go_simp
    refine (uns9_any 1 _).mono ?_
    rintro r w3 ⟨rfl, hg3⟩
    exact hK _ _ _ rfl hg3 rfl
  refine ⟨?_, ?_⟩
  · intro y w2 hG hD K hK
    simp only [depsH, List.getD_cons_zero, List.getD_cons_succ, Is, and_true] at hD
    have h0 := hD.1
    have h1 := hD.2.1
    have h2 := hD.2.2.1
    have h3 := hD.2.2.2.1
    have h4 := hD.2.2.2.2.1
    have h5 := hD.2.2.2.2.2.1
    have h6 := hD.2.2.2.2.2.2.1
    have h7 := hD.2.2.2.2.2.2.2.1
    have h8 := hD.2.2.2.2.2.2.2.2.1
    have h9 := hD.2.2.2.2.2.2.2.2.2.1
    have h10 := hD.2.2.2.2.2.2.2.2.2.2.1
    have h11 := hD.2.2.2.2.2.2.2.2.2.2.2.1
    have h12 := hD.2.2.2.2.2.2.2.2.2.2.2.2
    clear hD
    simp only [fillL, Act.put, List.setIfInBounds_toArray, List.set_cons_zero, List.set_cons_succ, List.getD_cons_zero, List.getD_cons_succ, Is] at hK ⊢
    simp only [h0, h2, h3, h6, h7, h8, h9, h10, h11, h12] at hK ⊢
    clear h0 h2 h3 h6 h7 h8 h9 h10 h11 h12
    refine ite_yes (by rfl) ?_
    go_simp
    have hbb := built_nodes w2 [(.mk 4 0 1 ⟨#[]⟩ [] [])] [.agg #[.int .i64 4, .int .i64 0, .int .u64 1, .string ⟨#[]⟩, .slice none 0 0, .slice none 0 0]] (by intro x hx; simp only [List.mem_cons, List.not_mem_nil, or_false] at hx; subst hx; exact ⟨_, _, _, _, _, _, _, _, _, _, rfl⟩) ⟨_, _, rfl, (leaf_nd 4 0 1 ⟨#[]⟩ (by unfold i64ok u64ok lenok; decide) _), rfl⟩ (by simp)
    exact hK _ _ _ rfl ((Grew.refl _).alloc _) ⟨⟨_, rfl⟩, hbb⟩
  refine ⟨?_, ?_⟩
  · intro y w2 hG hD K hK
    simp only [depsH, List.getD_cons_zero, List.getD_cons_succ, Is, and_true] at hD
    have h0 := hD.1
    have h1 := hD.2.1
    have h2 := hD.2.2.1
    have h3 := hD.2.2.2.1
    have h4 := hD.2.2.2.2.1
    have h5 := hD.2.2.2.2.2.1
    have h6 := hD.2.2.2.2.2.2.1
    have h7 := hD.2.2.2.2.2.2.2.1
    have h8 := hD.2.2.2.2.2.2.2.2.1
    have h9 := hD.2.2.2.2.2.2.2.2.2.1
    have h10 := hD.2.2.2.2.2.2.2.2.2.2.1
    have h11 := hD.2.2.2.2.2.2.2.2.2.2.2.1
    have h12 := hD.2.2.2.2.2.2.2.2.2.2.2.2.1
    have h13 := hD.2.2.2.2.2.2.2.2.2.2.2.2.2
    clear hD
    simp only [fillL, Act.put, List.setIfInBounds_toArray, List.set_cons_zero, List.set_cons_succ, List.getD_cons_zero, List.getD_cons_succ, Is] at hK ⊢
    simp only [h0, h2, h3, h6, h7, h8, h9, h10, h11, h12] at hK ⊢
    clear h0 h2 h3 h6 h7 h8 h9 h10 h11 h12
    refine ite_yes (by rfl) ?_
    skip
    obtain ⟨⟨gq, eq⟩, hq⟩ := h13
    rw [eq] at hq hK ⊢
    go_simp
    refine (list9_any 10 _ _ _ _).mono ?_
    rintro r w3 ⟨rfl, hg3⟩
    exact hK _ _ _ rfl hg3 (vecK_nd 10 (by unfold i64ok; decide) (Rn.st _ _ _ _ hg3 hq))
  refine ⟨?_, ?_⟩
  · intro y w2 hG hD K hK
    simp only [depsH, List.getD_cons_zero, List.getD_cons_succ, Is, and_true] at hD
    have h0 := hD.1
    have h1 := hD.2.1
    have h2 := hD.2.2.1
    have h3 := hD.2.2.2.1
    have h4 := hD.2.2.2.2.1
    have h5 := hD.2.2.2.2.2.1
    have h6 := hD.2.2.2.2.2.2.1
    have h7 := hD.2.2.2.2.2.2.2.1
    have h8 := hD.2.2.2.2.2.2.2.2.1
    have h9 := hD.2.2.2.2.2.2.2.2.2.1
    have h10 := hD.2.2.2.2.2.2.2.2.2.2.1
    have h11 := hD.2.2.2.2.2.2.2.2.2.2.2.1
    have h12 := hD.2.2.2.2.2.2.2.2.2.2.2.2.1
    have h13 := hD.2.2.2.2.2.2.2.2.2.2.2.2.2.1
    have h14 := hD.2.2.2.2.2.2.2.2.2.2.2.2.2.2
    clear hD
    simp only [fillL, Act.put, List.setIfInBounds_toArray, List.set_cons_zero, List.set_cons_succ, List.getD_cons_zero, List.getD_cons_succ, Is] at hK ⊢
    simp only [h0, h2, h3, h6, h7, h8, h9, h10, h11, h12] at hK ⊢
    clear h0 h2 h3 h6 h7 h8 h9 h10 h11 h12
    refine ite_yes (by rfl) ?_
    go_simp
    refine (num9_any 1 _).mono ?_
    rintro r w3 ⟨rfl, hg3⟩
    exact hK _ _ _ rfl hg3 rfl
  refine ⟨?_, ?_⟩
  · intro y w2 hG hD K hK
    simp only [depsH, List.getD_cons_zero, List.getD_cons_succ, Is, and_true] at hD
    have h0 := hD.1
    have h1 := hD.2.1
    have h2 := hD.2.2.1
    have h3 := hD.2.2.2.1
    have h4 := hD.2.2.2.2.1
    have h5 := hD.2.2.2.2.2.1
    have h6 := hD.2.2.2.2.2.2.1
    have h7 := hD.2.2.2.2.2.2.2.1
    have h8 := hD.2.2.2.2.2.2.2.2.1
    have h9 := hD.2.2.2.2.2.2.2.2.2.1
    have h10 := hD.2.2.2.2.2.2.2.2.2.2.1
    have h11 := hD.2.2.2.2.2.2.2.2.2.2.2.1
    have h12 := hD.2.2.2.2.2.2.2.2.2.2.2.2.1
    have h13 := hD.2.2.2.2.2.2.2.2.2.2.2.2.2.1
    have h14 := hD.2.2.2.2.2.2.2.2.2.2.2.2.2.2.1
    have h15 := hD.2.2.2.2.2.2.2.2.2.2.2.2.2.2.2
    clear hD
    simp only [fillL, Act.put, List.setIfInBounds_toArray, List.set_cons_zero, List.set_cons_succ, List.getD_cons_zero, List.getD_cons_succ, Is] at hK ⊢
    simp only [h0, h2, h3, h6, h7, h8, h9, h10, h11, h12, h15] at hK ⊢
    clear h0 h2 h3 h6 h7 h8 h9 h10 h11 h12 h15
    refine ite_yes (by rfl) ?_
    go_simp
    have hbb := built_nodes w2 [(.mk 3 1 0 ⟨#[]⟩ [] [])] [.agg #[.int .i64 3, .int .i64 1, .int .u64 0, .string ⟨#[]⟩, .slice none 0 0, .slice none 0 0]] (by intro x hx; simp only [List.mem_cons, List.not_mem_nil, or_false] at hx; subst hx; exact ⟨_, _, _, _, _, _, _, _, _, _, rfl⟩) ⟨_, _, rfl, (leaf_nd 3 1 0 ⟨#[]⟩ (by unfold i64ok u64ok lenok; decide) _), rfl⟩ (by simp)
    exact hK _ _ _ rfl ((Grew.refl _).alloc _) ⟨⟨_, rfl⟩, hbb⟩
  refine ⟨?_, ?_⟩
  · intro y w2 hG hD K hK
    simp only [depsH, List.getD_cons_zero, List.getD_cons_succ, Is, and_true] at hD
    have h0 := hD.1
    have h1 := hD.2.1
    have h2 := hD.2.2.1
    have h3 := hD.2.2.2.1
    have h4 := hD.2.2.2.2.1
    have h5 := hD.2.2.2.2.2.1
    have h6 := hD.2.2.2.2.2.2.1
    have h7 := hD.2.2.2.2.2.2.2.1
    have h8 := hD.2.2.2.2.2.2.2.2.1
    have h9 := hD.2.2.2.2.2.2.2.2.2.1
    have h10 := hD.2.2.2.2.2.2.2.2.2.2.1
    have h11 := hD.2.2.2.2.2.2.2.2.2.2.2.1
    have h12 := hD.2.2.2.2.2.2.2.2.2.2.2.2.1
    have h13 := hD.2.2.2.2.2.2.2.2.2.2.2.2.2.1
    have h14 := hD.2.2.2.2.2.2.2.2.2.2.2.2.2.2.1
    have h15 := hD.2.2.2.2.2.2.2.2.2.2.2.2.2.2.2.1
    have h16 := hD.2.2.2.2.2.2.2.2.2.2.2.2.2.2.2.2
    clear hD
    simp only [fillL, Act.put, List.setIfInBounds_toArray, List.set_cons_zero, List.set_cons_succ, List.getD_cons_zero, List.getD_cons_succ, Is] at hK ⊢
    simp only [h0, h2, h3, h6, h7, h8, h9, h10, h11, h12, h15] at hK ⊢
    clear h0 h2 h3 h6 h7 h8 h9 h10 h11 h12 h15
    refine ite_yes (by rfl) ?_
    skip
    obtain ⟨⟨gq, eq⟩, hq⟩ := h16
    rw [eq] at hq hK ⊢
    go_simp
    refine (list9_any 11 _ _ _ _).mono ?_
    rintro r w3 ⟨rfl, hg3⟩
    exact hK _ _ _ rfl hg3 (vecK_nd 11 (by unfold i64ok; decide) (Rn.st _ _ _ _ hg3 hq))
  refine ⟨?_, ?_⟩
  · intro y w2 hG hD K hK
    simp only [depsH, List.getD_cons_zero, List.getD_cons_succ, Is, and_true] at hD
    have h0 := hD.1
    have h1 := hD.2.1
    have h2 := hD.2.2.1
    have h3 := hD.2.2.2.1
    have h4 := hD.2.2.2.2.1
    have h5 := hD.2.2.2.2.2.1
    have h6 := hD.2.2.2.2.2.2.1
    have h7 := hD.2.2.2.2.2.2.2.1
    have h8 := hD.2.2.2.2.2.2.2.2.1
    have h9 := hD.2.2.2.2.2.2.2.2.2.1
    have h10 := hD.2.2.2.2.2.2.2.2.2.2.1
    have h11 := hD.2.2.2.2.2.2.2.2.2.2.2.1
    have h12 := hD.2.2.2.2.2.2.2.2.2.2.2.2.1
    have h13 := hD.2.2.2.2.2.2.2.2.2.2.2.2.2.1
    have h14 := hD.2.2.2.2.2.2.2.2.2.2.2.2.2.2.1
    have h15 := hD.2.2.2.2.2.2.2.2.2.2.2.2.2.2.2.1
    have h16 := hD.2.2.2.2.2.2.2.2.2.2.2.2.2.2.2.2.1
    have h17 := hD.2.2.2.2.2.2.2.2.2.2.2.2.2.2.2.2.2
    clear hD
    simp only [fillL, Act.put, List.setIfInBounds_toArray, List.set_cons_zero, List.set_cons_succ, List.getD_cons_zero, List.getD_cons_succ, Is] at hK ⊢
    simp only [h0, h2, h3, h6, h7, h8, h9, h10, h11, h12, h15] at hK ⊢
    clear h0 h2 h3 h6 h7 h8 h9 h10 h11 h12 h15
    refine ite_yes (by rfl) ?_
    go_simp
    refine (alike_any (.mk 10 0 0 ⟨#[]⟩ [] [(.mk 4 0 1 ⟨#[]⟩ [] [])]) (.mk 11 0 0 ⟨#[]⟩ [] [(.mk 3 1 0 ⟨#[]⟩ [] [])]) _ _ w2 h14 h17 (by decide) (by decide)).mono ?_
    rintro r w3 ⟨bq, rfl, hbq, hg3⟩
    obtain rfl : bq = true := hbq.2 w09_h
    exact hK _ _ _ rfl hg3 rfl
  refine ⟨?_, ?_⟩
  · intro y w2 hG hD K hK
    simp only [depsH, List.getD_cons_zero, List.getD_cons_succ, Is, and_true] at hD
    have h0 := hD.1
    have h1 := hD.2.1
    have h2 := hD.2.2.1
    have h3 := hD.2.2.2.1
    have h4 := hD.2.2.2.2.1
    have h5 := hD.2.2.2.2.2.1
    have h6 := hD.2.2.2.2.2.2.1
    have h7 := hD.2.2.2.2.2.2.2.1
    have h8 := hD.2.2.2.2.2.2.2.2.1
    have h9 := hD.2.2.2.2.2.2.2.2.2.1
    have h10 := hD.2.2.2.2.2.2.2.2.2.2.1
    have h11 := hD.2.2.2.2.2.2.2.2.2.2.2.1
    have h12 := hD.2.2.2.2.2.2.2.2.2.2.2.2.1
    have h13 := hD.2.2.2.2.2.2.2.2.2.2.2.2.2.1
    have h14 := hD.2.2.2.2.2.2.2.2.2.2.2.2.2.2.1
    have h15 := hD.2.2.2.2.2.2.2.2.2.2.2.2.2.2.2.1
    have h16 := hD.2.2.2.2.2.2.2.2.2.2.2.2.2.2.2.2.1
    have h17 := hD.2.2.2.2.2.2.2.2.2.2.2.2.2.2.2.2.2.1
    have h18 := hD.2.2.2.2.2.2.2.2.2.2.2.2.2.2.2.2.2.2
    clear hD
    simp only [fillL, Act.put, List.setIfInBounds_toArray, List.set_cons_zero, List.set_cons_succ, List.getD_cons_zero, List.getD_cons_succ, Is] at hK ⊢
    simp only [h0, h2, h3, h6, h7, h8, h9, h10, h11, h12, h15, h18] at hK ⊢
    clear h0 h2 h3 h6 h7 h8 h9 h10 h11 h12 h15 h18
    refine ite_yes (by rfl) ?_
    go_simp
    exact hK _ _ _ rfl (Grew.refl _) rfl
  refine ⟨?_, ?_⟩
  · intro y w2 hG hD K hK
    simp only [depsH, List.getD_cons_zero, List.getD_cons_succ, Is, and_true] at hD
    have h0 := hD.1
    have h1 := hD.2.1
    have h2 := hD.2.2.1
    have h3 := hD.2.2.2.1
    have h4 := hD.2.2.2.2.1
    have h5 := hD.2.2.2.2.2.1
    have h6 := hD.2.2.2.2.2.2.1
    have h7 := hD.2.2.2.2.2.2.2.1
    have h8 := hD.2.2.2.2.2.2.2.2.1
    have h9 := hD.2.2.2.2.2.2.2.2.2.1
    have h10 := hD.2.2.2.2.2.2.2.2.2.2.1
    have h11 := hD.2.2.2.2.2.2.2.2.2.2.2.1
    have h12 := hD.2.2.2.2.2.2.2.2.2.2.2.2.1
    have h13 := hD.2.2.2.2.2.2.2.2.2.2.2.2.2.1
    have h14 := hD.2.2.2.2.2.2.2.2.2.2.2.2.2.2.1
    have h15 := hD.2.2.2.2.2.2.2.2.2.2.2.2.2.2.2.1
    have h16 := hD.2.2.2.2.2.2.2.2.2.2.2.2.2.2.2.2.1
    have h17 := hD.2.2.2.2.2.2.2.2.2.2.2.2.2.2.2.2.2.1
    have h18 := hD.2.2.2.2.2.2.2.2.2.2.2.2.2.2.2.2.2.2.1
    have h19 := hD.2.2.2.2.2.2.2.2.2.2.2.2.2.2.2.2.2.2.2
    clear hD
    simp only [fillL, Act.put, List.setIfInBounds_toArray, List.set_cons_zero, List.set_cons_succ, List.getD_cons_zero, List.getD_cons_succ, Is] at hK ⊢
    simp only [h0, h2, h3, h6, h7, h8, h9, h10, h11, h12, h15, h18, h19] at hK ⊢
    clear h0 h2 h3 h6 h7 h8 h9 h10 h11 h12 h15 h18 h19
    refine ite_yes (by rfl) ?_
    go_simp
    exact hK _ _ _ rfl (Grew.refl _) rfl
  refine ⟨?_, ?_⟩
  · intro y w2 hG hD K hK
    simp only [depsH, List.getD_cons_zero, List.getD_cons_succ, Is, and_true] at hD
    have h0 := hD.1
    have h1 := hD.2.1
    have h2 := hD.2.2.1
    have h3 := hD.2.2.2.1
    have h4 := hD.2.2.2.2.1
    have h5 := hD.2.2.2.2.2.1
    have h6 := hD.2.2.2.2.2.2.1
    have h7 := hD.2.2.2.2.2.2.2.1
    have h8 := hD.2.2.2.2.2.2.2.2.1
    have h9 := hD.2.2.2.2.2.2.2.2.2.1
    have h10 := hD.2.2.2.2.2.2.2.2.2.2.1
    have h11 := hD.2.2.2.2.2.2.2.2.2.2.2.1
    have h12 := hD.2.2.2.2.2.2.2.2.2.2.2.2.1
    have h13 := hD.2.2.2.2.2.2.2.2.2.2.2.2.2.1
    have h14 := hD.2.2.2.2.2.2.2.2.2.2.2.2.2.2.1
    have h15 := hD.2.2.2.2.2.2.2.2.2.2.2.2.2.2.2.1
    have h16 := hD.2.2.2.2.2.2.2.2.2.2.2.2.2.2.2.2.1
    have h17 := hD.2.2.2.2.2.2.2.2.2.2.2.2.2.2.2.2.2.1
    have h18 := hD.2.2.2.2.2.2.2.2.2.2.2.2.2.2.2.2.2.2.1
    have h19 := hD.2.2.2.2.2.2.2.2.2.2.2.2.2.2.2.2.2.2.2.1
    have h20 := hD.2.2.2.2.2.2.2.2.2.2.2.2.2.2.2.2.2.2.2.2
    clear hD
    simp only [fillL, Act.put, List.setIfInBounds_toArray, List.set_cons_zero, List.set_cons_succ, List.getD_cons_zero, List.getD_cons_succ, Is] at hK ⊢
    simp only [h0, h2, h3, h6, h7, h8, h9, h10, h11, h12, h15, h18, h19, h20] at hK ⊢
    clear h0 h2 h3 h6 h7 h8 h9 h10 h11 h12 h15 h18 h19 h20
    refine ite_yes (by rfl) ?_
    go_simp
    refine (num9_any 1 _).mono ?_
    rintro r w3 ⟨rfl, hg3⟩
    exact hK _ _ _ rfl hg3 rfl
  refine ⟨?_, ?_⟩
  · intro y w2 hG hD K hK
    simp only [depsH, List.getD_cons_zero, List.getD_cons_succ, Is, and_true] at hD
    have h0 := hD.1
    have h1 := hD.2.1
    have h2 := hD.2.2.1
    have h3 := hD.2.2.2.1
    have h4 := hD.2.2.2.2.1
    have h5 := hD.2.2.2.2.2.1
    have h6 := hD.2.2.2.2.2.2.1
    have h7 := hD.2.2.2.2.2.2.2.1
    have h8 := hD.2.2.2.2.2.2.2.2.1
    have h9 := hD.2.2.2.2.2.2.2.2.2.1
    have h10 := hD.2.2.2.2.2.2.2.2.2.2.1
    have h11 := hD.2.2.2.2.2.2.2.2.2.2.2.1
    have h12 := hD.2.2.2.2.2.2.2.2.2.2.2.2.1
    have h13 := hD.2.2.2.2.2.2.2.2.2.2.2.2.2.1
    have h14 := hD.2.2.2.2.2.2.2.2.2.2.2.2.2.2.1
    have h15 := hD.2.2.2.2.2.2.2.2.2.2.2.2.2.2.2.1
    have h16 := hD.2.2.2.2.2.2.2.2.2.2.2.2.2.2.2.2.1
    have h17 := hD.2.2.2.2.2.2.2.2.2.2.2.2.2.2.2.2.2.1
    have h18 := hD.2.2.2.2.2.2.2.2.2.2.2.2.2.2.2.2.2.2.1
    have h19 := hD.2.2.2.2.2.2.2.2.2.2.2.2.2.2.2.2.2.2.2.1
    have h20 := hD.2.2.2.2.2.2.2.2.2.2.2.2.2.2.2.2.2.2.2.2.1
    have h21 := hD.2.2.2.2.2.2.2.2.2.2.2.2.2.2.2.2.2.2.2.2.2
    clear hD
    simp only [fillL, Act.put, List.setIfInBounds_toArray, List.set_cons_zero, List.set_cons_succ, List.getD_cons_zero, List.getD_cons_succ, Is] at hK ⊢
    simp only [h0, h2, h3, h6, h7, h8, h9, h10, h11, h12, h15, h18, h19, h20, h21] at hK ⊢
    clear h0 h2 h3 h6 h7 h8 h9 h10 h11 h12 h15 h18 h19 h20 h21
    refine ite_yes (by rfl) ?_
    go_simp
    refine (text9_any ⟨#[49]⟩ _).mono ?_
    rintro r w3 ⟨rfl, hg3⟩
    exact hK _ _ _ rfl hg3 rfl
  refine ⟨?_, ?_⟩
  · intro y w2 hG hD K hK
    simp only [depsH, List.getD_cons_zero, List.getD_cons_succ, Is, and_true] at hD
    have h0 := hD.1
    have h1 := hD.2.1
    have h2 := hD.2.2.1
    have h3 := hD.2.2.2.1
    have h4 := hD.2.2.2.2.1
    have h5 := hD.2.2.2.2.2.1
    have h6 := hD.2.2.2.2.2.2.1
    have h7 := hD.2.2.2.2.2.2.2.1
    have h8 := hD.2.2.2.2.2.2.2.2.1
    have h9 := hD.2.2.2.2.2.2.2.2.2.1
    have h10 := hD.2.2.2.2.2.2.2.2.2.2.1
    have h11 := hD.2.2.2.2.2.2.2.2.2.2.2.1
    have h12 := hD.2.2.2.2.2.2.2.2.2.2.2.2.1
    have h13 := hD.2.2.2.2.2.2.2.2.2.2.2.2.2.1
    have h14 := hD.2.2.2.2.2.2.2.2.2.2.2.2.2.2.1
    have h15 := hD.2.2.2.2.2.2.2.2.2.2.2.2.2.2.2.1
    have h16 := hD.2.2.2.2.2.2.2.2.2.2.2.2.2.2.2.2.1
    have h17 := hD.2.2.2.2.2.2.2.2.2.2.2.2.2.2.2.2.2.1
    have h18 := hD.2.2.2.2.2.2.2.2.2.2.2.2.2.2.2.2.2.2.1
    have h19 := hD.2.2.2.2.2.2.2.2.2.2.2.2.2.2.2.2.2.2.2.1
    have h20 := hD.2.2.2.2.2.2.2.2.2.2.2.2.2.2.2.2.2.2.2.2.1
    have h21 := hD.2.2.2.2.2.2.2.2.2.2.2.2.2.2.2.2.2.2.2.2.2.1
    have h22 := hD.2.2.2.2.2.2.2.2.2.2.2.2.2.2.2.2.2.2.2.2.2.2
    clear hD
    simp only [fillL, Act.put, List.setIfInBounds_toArray, List.set_cons_zero, List.set_cons_succ, List.getD_cons_zero, List.getD_cons_succ, Is] at hK ⊢
    simp only [h0, h2, h3, h6, h7, h8, h9, h10, h11, h12, h15, h18, h19, h20, h21, h22] at hK ⊢
    clear h0 h2 h3 h6 h7 h8 h9 h10 h11 h12 h15 h18 h19 h20 h21 h22
    refine ite_yes (by rfl) ?_
    go_simp
    refine (alike_any (.mk 3 1 0 ⟨#[]⟩ [] []) (.mk 6 0 0 ⟨#[49]⟩ [] []) _ _ w2 (leaf_nd 3 1 0 ⟨#[]⟩ (by unfold i64ok u64ok lenok; decide) _) (leaf_nd 6 0 0 ⟨#[49]⟩ (by unfold i64ok u64ok lenok; decide) _) (by decide) (by decide)).mono ?_
    rintro r w3 ⟨bq, rfl, hbq, hg3⟩
    obtain rfl : bq = false := by cases bq; rfl; exact absurd (hbq.1 rfl) w09_f
    exact hK _ _ _ rfl hg3 rfl
  refine ⟨?_, ?_⟩
  · intro y w2 hG hD K hK
    simp only [depsH, List.getD_cons_zero, List.getD_cons_succ, Is, and_true] at hD
    have h0 := hD.1
    have h1 := hD.2.1
    have h2 := hD.2.2.1
    have h3 := hD.2.2.2.1
    have h4 := hD.2.2.2.2.1
    have h5 := hD.2.2.2.2.2.1
    have h6 := hD.2.2.2.2.2.2.1
    have h7 := hD.2.2.2.2.2.2.2.1
    have h8 := hD.2.2.2.2.2.2.2.2.1
    have h9 := hD.2.2.2.2.2.2.2.2.2.1
    have h10 := hD.2.2.2.2.2.2.2.2.2.2.1
    have h11 := hD.2.2.2.2.2.2.2.2.2.2.2.1
    have h12 := hD.2.2.2.2.2.2.2.2.2.2.2.2.1
    have h13 := hD.2.2.2.2.2.2.2.2.2.2.2.2.2.1
    have h14 := hD.2.2.2.2.2.2.2.2.2.2.2.2.2.2.1
    have h15 := hD.2.2.2.2.2.2.2.2.2.2.2.2.2.2.2.1
    have h16 := hD.2.2.2.2.2.2.2.2.2.2.2.2.2.2.2.2.1
    have h17 := hD.2.2.2.2.2.2.2.2.2.2.2.2.2.2.2.2.2.1
    have h18 := hD.2.2.2.2.2.2.2.2.2.2.2.2.2.2.2.2.2.2.1
    have h19 := hD.2.2.2.2.2.2.2.2.2.2.2.2.2.2.2.2.2.2.2.1
    have h20 := hD.2.2.2.2.2.2.2.2.2.2.2.2.2.2.2.2.2.2.2.2.1
    have h21 := hD.2.2.2.2.2.2.2.2.2.2.2.2.2.2.2.2.2.2.2.2.2.1
    have h22 := hD.2.2.2.2.2.2.2.2.2.2.2.2.2.2.2.2.2.2.2.2.2.2.1
    have h23 := hD.2.2.2.2.2.2.2.2.2.2.2.2.2.2.2.2.2.2.2.2.2.2.2
    clear hD
    simp only [fillL, Act.put, List.setIfInBounds_toArray, List.set_cons_zero, List.set_cons_succ, List.getD_cons_zero, List.getD_cons_succ, Is] at hK ⊢
    simp only [h0, h2, h3, h6, h7, h8, h9, h10, h11, h12, h15, h18, h19, h20, h21, h22, h23] at hK ⊢
    clear h0 h2 h3 h6 h7 h8 h9 h10 h11 h12 h15 h18 h19 h20 h21 h22 h23
    refine ite_yes (by rfl) ?_
    go_simp
    exact hK _ _ _ rfl (Grew.refl _) rfl
  refine ⟨?_, ?_⟩
  · intro y w2 hG hD K hK
    simp only [depsH, List.getD_cons_zero, List.getD_cons_succ, Is, and_true] at hD
    have h0 := hD.1
    have h1 := hD.2.1
    have h2 := hD.2.2.1
    have h3 := hD.2.2.2.1
    have h4 := hD.2.2.2.2.1
    have h5 := hD.2.2.2.2.2.1
    have h6 := hD.2.2.2.2.2.2.1
    have h7 := hD.2.2.2.2.2.2.2.1
    have h8 := hD.2.2.2.2.2.2.2.2.1
    have h9 := hD.2.2.2.2.2.2.2.2.2.1
    have h10 := hD.2.2.2.2.2.2.2.2.2.2.1
    have h11 := hD.2.2.2.2.2.2.2.2.2.2.2.1
    have h12 := hD.2.2.2.2.2.2.2.2.2.2.2.2.1
    have h13 := hD.2.2.2.2.2.2.2.2.2.2.2.2.2.1
    have h14 := hD.2.2.2.2.2.2.2.2.2.2.2.2.2.2.1
    have h15 := hD.2.2.2.2.2.2.2.2.2.2.2.2.2.2.2.1
    have h16 := hD.2.2.2.2.2.2.2.2.2.2.2.2.2.2.2.2.1
    have h17 := hD.2.2.2.2.2.2.2.2.2.2.2.2.2.2.2.2.2.1
    have h18 := hD.2.2.2.2.2.2.2.2.2.2.2.2.2.2.2.2.2.2.1
    have h19 := hD.2.2.2.2.2.2.2.2.2.2.2.2.2.2.2.2.2.2.2.1
    have h20 := hD.2.2.2.2.2.2.2.2.2.2.2.2.2.2.2.2.2.2.2.2.1
    have h21 := hD.2.2.2.2.2.2.2.2.2.2.2.2.2.2.2.2.2.2.2.2.2.1
    have h22 := hD.2.2.2.2.2.2.2.2.2.2.2.2.2.2.2.2.2.2.2.2.2.2.1
    have h23 := hD.2.2.2.2.2.2.2.2.2.2.2.2.2.2.2.2.2.2.2.2.2.2.2.1
    have h24 := hD.2.2.2.2.2.2.2.2.2.2.2.2.2.2.2.2.2.2.2.2.2.2.2.2
    clear hD
    simp only [fillL, Act.put, List.setIfInBounds_toArray, List.set_cons_zero, List.set_cons_succ, List.getD_cons_zero, List.getD_cons_succ, Is] at hK ⊢
    simp only [h0, h2, h3, h6, h7, h8, h9, h10, h11, h12, h15, h18, h19, h20, h21, h22, h23, h24] at hK ⊢
    clear h0 h2 h3 h6 h7 h8 h9 h10 h11 h12 h15 h18 h19 h20 h21 h22 h23 h24
    refine ite_yes (by rfl) ?_
    go_simp
    exact hK _ _ _ rfl (Grew.refl _) rfl
  refine ⟨?_, ?_⟩
  · intro y w2 hG hD K hK
    simp only [depsH, List.getD_cons_zero, List.getD_cons_succ, Is, and_true] at hD
    have h0 := hD.1
    have h1 := hD.2.1
    have h2 := hD.2.2.1
    have h3 := hD.2.2.2.1
    have h4 := hD.2.2.2.2.1
    have h5 := hD.2.2.2.2.2.1
    have h6 := hD.2.2.2.2.2.2.1
    have h7 := hD.2.2.2.2.2.2.2.1
    have h8 := hD.2.2.2.2.2.2.2.2.1
    have h9 := hD.2.2.2.2.2.2.2.2.2.1
    have h10 := hD.2.2.2.2.2.2.2.2.2.2.1
    have h11 := hD.2.2.2.2.2.2.2.2.2.2.2.1
    have h12 := hD.2.2.2.2.2.2.2.2.2.2.2.2.1
    have h13 := hD.2.2.2.2.2.2.2.2.2.2.2.2.2.1
    have h14 := hD.2.2.2.2.2.2.2.2.2.2.2.2.2.2.1
    have h15 := hD.2.2.2.2.2.2.2.2.2.2.2.2.2.2.2.1
    have h16 := hD.2.2.2.2.2.2.2.2.2.2.2.2.2.2.2.2.1
    have h17 := hD.2.2.2.2.2.2.2.2.2.2.2.2.2.2.2.2.2.1
    have h18 := hD.2.2.2.2.2.2.2.2.2.2.2.2.2.2.2.2.2.2.1
    have h19 := hD.2.2.2.2.2.2.2.2.2.2.2.2.2.2.2.2.2.2.2.1
    have h20 := hD.2.2.2.2.2.2.2.2.2.2.2.2.2.2.2.2.2.2.2.2.1
    have h21 := hD.2.2.2.2.2.2.2.2.2.2.2.2.2.2.2.2.2.2.2.2.2.1
    have h22 := hD.2.2.2.2.2.2.2.2.2.2.2.2.2.2.2.2.2.2.2.2.2.2.1
    have h23 := hD.2.2.2.2.2.2.2.2.2.2.2.2.2.2.2.2.2.2.2.2.2.2.2.1
    have h24 := hD.2.2.2.2.2.2.2.2.2.2.2.2.2.2.2.2.2.2.2.2.2.2.2.2.1
    have h25 := hD.2.2.2.2.2.2.2.2.2.2.2.2.2.2.2.2.2.2.2.2.2.2.2.2.2
    clear hD
    simp only [fillL, Act.put, List.setIfInBounds_toArray, List.set_cons_zero, List.set_cons_succ, List.getD_cons_zero, List.getD_cons_succ, Is] at hK ⊢
    simp only [h0, h2, h3, h6, h7, h8, h9, h10, h11, h12, h15, h18, h19, h20, h21, h22, h23, h24, h25] at hK ⊢
    clear h0 h2 h3 h6 h7 h8 h9 h10 h11 h12 h15 h18 h19 h20 h21 h22 h23 h24 h25
    refine ite_yes (by rfl) ?_
    go_simp
    exact hK _ _ _ rfl (Grew.refl _) rfl
  refine ⟨?_, ?_⟩
  · intro y w2 hG hD K hK
    simp only [depsH, List.getD_cons_zero, List.getD_cons_succ, Is, and_true] at hD
    have h0 := hD.1
    have h1 := hD.2.1
    have h2 := hD.2.2.1
    have h3 := hD.2.2.2.1
    have h4 := hD.2.2.2.2.1
    have h5 := hD.2.2.2.2.2.1
    have h6 := hD.2.2.2.2.2.2.1
    have h7 := hD.2.2.2.2.2.2.2.1
    have h8 := hD.2.2.2.2.2.2.2.2.1
    have h9 := hD.2.2.2.2.2.2.2.2.2.1
    have h10 := hD.2.2.2.2.2.2.2.2.2.2.1
    have h11 := hD.2.2.2.2.2.2.2.2.2.2.2.1
    have h12 := hD.2.2.2.2.2.2.2.2.2.2.2.2.1
    have h13 := hD.2.2.2.2.2.2.2.2.2.2.2.2.2.1
    have h14 := hD.2.2.2.2.2.2.2.2.2.2.2.2.2.2.1
    have h15 := hD.2.2.2.2.2.2.2.2.2.2.2.2.2.2.2.1
    have h16 := hD.2.2.2.2.2.2.2.2.2.2.2.2.2.2.2.2.1
    have h17 := hD.2.2.2.2.2.2.2.2.2.2.2.2.2.2.2.2.2.1
    have h18 := hD.2.2.2.2.2.2.2.2.2.2.2.2.2.2.2.2.2.2.1
    have h19 := hD.2.2.2.2.2.2.2.2.2.2.2.2.2.2.2.2.2.2.2.1
    have h20 := hD.2.2.2.2.2.2.2.2.2.2.2.2.2.2.2.2.2.2.2.2.1
    have h21 := hD.2.2.2.2.2.2.2.2.2.2.2.2.2.2.2.2.2.2.2.2.2.1
    have h22 := hD.2.2.2.2.2.2.2.2.2.2.2.2.2.2.2.2.2.2.2.2.2.2.1
    have h23 := hD.2.2.2.2.2.2.2.2.2.2.2.2.2.2.2.2.2.2.2.2.2.2.2.1
    have h24 := hD.2.2.2.2.2.2.2.2.2.2.2.2.2.2.2.2.2.2.2.2.2.2.2.2.1
    have h25 := hD.2.2.2.2.2.2.2.2.2.2.2.2.2.2.2.2.2.2.2.2.2.2.2.2.2.1
    have h26 := hD.2.2.2.2.2.2.2.2.2.2.2.2.2.2.2.2.2.2.2.2.2.2.2.2.2.2
    clear hD
    simp only [fillL, Act.put, List.setIfInBounds_toArray, List.set_cons_zero, List.set_cons_succ, List.getD_cons_zero, List.getD_cons_succ, Is] at hK ⊢
    simp only [h0, h2, h3, h6, h7, h8, h9, h10, h11, h12, h15, h18, h19, h20, h21, h22, h23, h24, h25, h26] at hK ⊢
    clear h0 h2 h3 h6 h7 h8 h9 h10 h11 h12 h15 h18 h19 h20 h21 h22 h23 h24 h25 h26
    refine ite_yes (by rfl) ?_
    go_simp
    exact hK _ _ _ rfl (Grew.refl _) rfl
  refine ⟨?_, ?_⟩
  · intro y w2 hG hD K hK
    simp only [depsH, List.getD_cons_zero, List.getD_cons_succ, Is, and_true] at hD
    have h0 := hD.1
    have h1 := hD.2.1
    have h2 := hD.2.2.1
    have h3 := hD.2.2.2.1
    have h4 := hD.2.2.2.2.1
    have h5 := hD.2.2.2.2.2.1
    have h6 := hD.2.2.2.2.2.2.1
    have h7 := hD.2.2.2.2.2.2.2.1
    have h8 := hD.2.2.2.2.2.2.2.2.1
    have h9 := hD.2.2.2.2.2.2.2.2.2.1
    have h10 := hD.2.2.2.2.2.2.2.2.2.2.1
    have h11 := hD.2.2.2.2.2.2.2.2.2.2.2.1
    have h12 := hD.2.2.2.2.2.2.2.2.2.2.2.2.1
    have h13 := hD.2.2.2.2.2.2.2.2.2.2.2.2.2.1
    have h14 := hD.2.2.2.2.2.2.2.2.2.2.2.2.2.2.1
    have h15 := hD.2.2.2.2.2.2.2.2.2.2.2.2.2.2.2.1
    have h16 := hD.2.2.2.2.2.2.2.2.2.2.2.2.2.2.2.2.1
    have h17 := hD.2.2.2.2.2.2.2.2.2.2.2.2.2.2.2.2.2.1
    have h18 := hD.2.2.2.2.2.2.2.2.2.2.2.2.2.2.2.2.2.2.1
    have h19 := hD.2.2.2.2.2.2.2.2.2.2.2.2.2.2.2.2.2.2.2.1
    have h20 := hD.2.2.2.2.2.2.2.2.2.2.2.2.2.2.2.2.2.2.2.2.1
    have h21 := hD.2.2.2.2.2.2.2.2.2.2.2.2.2.2.2.2.2.2.2.2.2.1
    have h22 := hD.2.2.2.2.2.2.2.2.2.2.2.2.2.2.2.2.2.2.2.2.2.2.1
    have h23 := hD.2.2.2.2.2.2.2.2.2.2.2.2.2.2.2.2.2.2.2.2.2.2.2.1
    have h24 := hD.2.2.2.2.2.2.2.2.2.2.2.2.2.2.2.2.2.2.2.2.2.2.2.2.1
    have h25 := hD.2.2.2.2.2.2.2.2.2.2.2.2.2.2.2.2.2.2.2.2.2.2.2.2.2.1
    have h26 := hD.2.2.2.2.2.2.2.2.2.2.2.2.2.2.2.2.2.2.2.2.2.2.2.2.2.2
    clear hD
    simp only [fillL, Act.put, List.setIfInBounds_toArray, List.set_cons_zero, List.set_cons_succ, List.getD_cons_zero, List.getD_cons_succ, Is] at hK ⊢
    simp only [h0, h2, h3, h6, h7, h8, h9, h10, h11, h12, h15, h18, h19, h20, h21, h22, h23, h24, h25, h26] at hK ⊢
    clear h0 h2 h3 h6 h7 h8 h9 h10 h11 h12 h15 h18 h19 h20 h21 h22 h23 h24 h25 h26
    refine ite_yes (by rfl) ?_
    go_simp
    exact hK _ _ _ rfl (Grew.refl _) rfl
  refine ⟨?_, ?_⟩
  · intro y w2 hG hD K hK
    simp only [depsH, List.getD_cons_zero, List.getD_cons_succ, Is, and_true] at hD
    have h0 := hD.1
    have h1 := hD.2.1
    have h2 := hD.2.2.1
    have h3 := hD.2.2.2.1
    have h4 := hD.2.2.2.2.1
    have h5 := hD.2.2.2.2.2.1
    have h6 := hD.2.2.2.2.2.2.1
    have h7 := hD.2.2.2.2.2.2.2.1
    have h8 := hD.2.2.2.2.2.2.2.2.1
    have h9 := hD.2.2.2.2.2.2.2.2.2.1
    have h10 := hD.2.2.2.2.2.2.2.2.2.2.1
    have h11 := hD.2.2.2.2.2.2.2.2.2.2.2.1
    have h12 := hD.2.2.2.2.2.2.2.2.2.2.2.2.1
    have h13 := hD.2.2.2.2.2.2.2.2.2.2.2.2.2.1
    have h14 := hD.2.2.2.2.2.2.2.2.2.2.2.2.2.2.1
    have h15 := hD.2.2.2.2.2.2.2.2.2.2.2.2.2.2.2.1
    have h16 := hD.2.2.2.2.2.2.2.2.2.2.2.2.2.2.2.2.1
    have h17 := hD.2.2.2.2.2.2.2.2.2.2.2.2.2.2.2.2.2.1
    have h18 := hD.2.2.2.2.2.2.2.2.2.2.2.2.2.2.2.2.2.2.1
    have h19 := hD.2.2.2.2.2.2.2.2.2.2.2.2.2.2.2.2.2.2.2.1
    have h20 := hD.2.2.2.2.2.2.2.2.2.2.2.2.2.2.2.2.2.2.2.2.1
    have h21 := hD.2.2.2.2.2.2.2.2.2.2.2.2.2.2.2.2.2.2.2.2.2.1
    have h22 := hD.2.2.2.2.2.2.2.2.2.2.2.2.2.2.2.2.2.2.2.2.2.2.1
    have h23 := hD.2.2.2.2.2.2.2.2.2.2.2.2.2.2.2.2.2.2.2.2.2.2.2.1
    have h24 := hD.2.2.2.2.2.2.2.2.2.2.2.2.2.2.2.2.2.2.2.2.2.2.2.2.1
    have h25 := hD.2.2.2.2.2.2.2.2.2.2.2.2.2.2.2.2.2.2.2.2.2.2.2.2.2.1
    have h26 := hD.2.2.2.2.2.2.2.2.2.2.2.2.2.2.2.2.2.2.2.2.2.2.2.2.2.2.1
    have h27 := hD.2.2.2.2.2.2.2.2.2.2.2.2.2.2.2.2.2.2.2.2.2.2.2.2.2.2.2.1
    have h28 := hD.2.2.2.2.2.2.2.2.2.2.2.2.2.2.2.2.2.2.2.2.2.2.2.2.2.2.2.2
    clear hD
    simp only [fillL, Act.put, List.setIfInBounds_toArray, List.set_cons_zero, List.set_cons_succ, List.getD_cons_zero, List.getD_cons_succ, Is] at hK ⊢
    simp only [h0, h2, h3, h6, h7, h8, h9, h10, h11, h12, h15, h18, h19, h20, h21, h22, h23, h24, h25, h26, h27, h28] at hK ⊢
    clear h0 h2 h3 h6 h7 h8 h9 h10 h11 h12 h15 h18 h19 h20 h21 h22 h23 h24 h25 h26 h27 h28
    refine ite_yes (by rfl) ?_
    go_simp
    refine (alike_any (.mk 0 0 0 ⟨#[]⟩ [] []) (.mk 0 0 0 ⟨#[]⟩ [] []) _ _ w2 (leaf_nd 0 0 0 ⟨#[]⟩ (by unfold i64ok u64ok lenok; decide) _) (leaf_nd 0 0 0 ⟨#[]⟩ (by unfold i64ok u64ok lenok; decide) _) (by decide) (by decide)).mono ?_
    rintro r w3 ⟨bq, rfl, hbq, hg3⟩
    obtain rfl : bq = false := by cases bq; rfl; exact absurd (hbq.1 rfl) w09_g
    exact hK _ _ _ rfl hg3 rfl
  refine ⟨?_, ?_⟩
  · intro y w2 hG hD K hK
    simp only [depsH, List.getD_cons_zero, List.getD_cons_succ, Is, and_true] at hD
    have h0 := hD.1
    have h1 := hD.2.1
    have h2 := hD.2.2.1
    have h3 := hD.2.2.2.1
    have h4 := hD.2.2.2.2.1
    have h5 := hD.2.2.2.2.2.1
    have h6 := hD.2.2.2.2.2.2.1
    have h7 := hD.2.2.2.2.2.2.2.1
    have h8 := hD.2.2.2.2.2.2.2.2.1
    have h9 := hD.2.2.2.2.2.2.2.2.2.1
    have h10 := hD.2.2.2.2.2.2.2.2.2.2.1
    have h11 := hD.2.2.2.2.2.2.2.2.2.2.2.1
    have h12 := hD.2.2.2.2.2.2.2.2.2.2.2.2.1
    have h13 := hD.2.2.2.2.2.2.2.2.2.2.2.2.2.1
    have h14 := hD.2.2.2.2.2.2.2.2.2.2.2.2.2.2.1
    have h15 := hD.2.2.2.2.2.2.2.2.2.2.2.2.2.2.2.1
    have h16 := hD.2.2.2.2.2.2.2.2.2.2.2.2.2.2.2.2.1
    have h17 := hD.2.2.2.2.2.2.2.2.2.2.2.2.2.2.2.2.2.1
    have h18 := hD.2.2.2.2.2.2.2.2.2.2.2.2.2.2.2.2.2.2.1
    have h19 := hD.2.2.2.2.2.2.2.2.2.2.2.2.2.2.2.2.2.2.2.1
    have h20 := hD.2.2.2.2.2.2.2.2.2.2.2.2.2.2.2.2.2.2.2.2.1
    have h21 := hD.2.2.2.2.2.2.2.2.2.2.2.2.2.2.2.2.2.2.2.2.2.1
    have h22 := hD.2.2.2.2.2.2.2.2.2.2.2.2.2.2.2.2.2.2.2.2.2.2.1
    have h23 := hD.2.2.2.2.2.2.2.2.2.2.2.2.2.2.2.2.2.2.2.2.2.2.2.1
    have h24 := hD.2.2.2.2.2.2.2.2.2.2.2.2.2.2.2.2.2.2.2.2.2.2.2.2.1
    have h25 := hD.2.2.2.2.2.2.2.2.2.2.2.2.2.2.2.2.2.2.2.2.2.2.2.2.2.1
    have h26 := hD.2.2.2.2.2.2.2.2.2.2.2.2.2.2.2.2.2.2.2.2.2.2.2.2.2.2.1
    have h27 := hD.2.2.2.2.2.2.2.2.2.2.2.2.2.2.2.2.2.2.2.2.2.2.2.2.2.2.2.1
    have h28 := hD.2.2.2.2.2.2.2.2.2.2.2.2.2.2.2.2.2.2.2.2.2.2.2.2.2.2.2.2.1
    have h29 := hD.2.2.2.2.2.2.2.2.2.2.2.2.2.2.2.2.2.2.2.2.2.2.2.2.2.2.2.2.2
    clear hD
    simp only [fillL, Act.put, List.setIfInBounds_toArray, List.set_cons_zero, List.set_cons_succ, List.getD_cons_zero, List.getD_cons_succ, Is] at hK ⊢
    simp only [h0, h2, h3, h6, h7, h8, h9, h10, h11, h12, h15, h18, h19, h20, h21, h22, h23, h24, h25, h26, h27, h28, h29] at hK ⊢
    clear h0 h2 h3 h6 h7 h8 h9 h10 h11 h12 h15 h18 h19 h20 h21 h22 h23 h24 h25 h26 h27 h28 h29
    refine ite_yes (by rfl) ?_
    go_simp
    exact hK _ _ _ rfl (Grew.refl _) rfl
  refine ⟨?_, ?_⟩
  · intro y w2 hG hD K hK
    simp only [depsH, List.getD_cons_zero, List.getD_cons_succ, Is, and_true] at hD
    have h0 := hD.1
    have h1 := hD.2.1
    have h2 := hD.2.2.1
    have h3 := hD.2.2.2.1
    have h4 := hD.2.2.2.2.1
    have h5 := hD.2.2.2.2.2.1
    have h6 := hD.2.2.2.2.2.2.1
    have h7 := hD.2.2.2.2.2.2.2.1
    have h8 := hD.2.2.2.2.2.2.2.2.1
    have h9 := hD.2.2.2.2.2.2.2.2.2.1
    have h10 := hD.2.2.2.2.2.2.2.2.2.2.1
    have h11 := hD.2.2.2.2.2.2.2.2.2.2.2.1
    have h12 := hD.2.2.2.2.2.2.2.2.2.2.2.2.1
    have h13 := hD.2.2.2.2.2.2.2.2.2.2.2.2.2.1
    have h14 := hD.2.2.2.2.2.2.2.2.2.2.2.2.2.2.1
    have h15 := hD.2.2.2.2.2.2.2.2.2.2.2.2.2.2.2.1
    have h16 := hD.2.2.2.2.2.2.2.2.2.2.2.2.2.2.2.2.1
    have h17 := hD.2.2.2.2.2.2.2.2.2.2.2.2.2.2.2.2.2.1
    have h18 := hD.2.2.2.2.2.2.2.2.2.2.2.2.2.2.2.2.2.2.1
    have h19 := hD.2.2.2.2.2.2.2.2.2.2.2.2.2.2.2.2.2.2.2.1
    have h20 := hD.2.2.2.2.2.2.2.2.2.2.2.2.2.2.2.2.2.2.2.2.1
    have h21 := hD.2.2.2.2.2.2.2.2.2.2.2.2.2.2.2.2.2.2.2.2.2.1
    have h22 := hD.2.2.2.2.2.2.2.2.2.2.2.2.2.2.2.2.2.2.2.2.2.2.1
    have h23 := hD.2.2.2.2.2.2.2.2.2.2.2.2.2.2.2.2.2.2.2.2.2.2.2.1
    have h24 := hD.2.2.2.2.2.2.2.2.2.2.2.2.2.2.2.2.2.2.2.2.2.2.2.2.1
    have h25 := hD.2.2.2.2.2.2.2.2.2.2.2.2.2.2.2.2.2.2.2.2.2.2.2.2.2.1
    have h26 := hD.2.2.2.2.2.2.2.2.2.2.2.2.2.2.2.2.2.2.2.2.2.2.2.2.2.2.1
    have h27 := hD.2.2.2.2.2.2.2.2.2.2.2.2.2.2.2.2.2.2.2.2.2.2.2.2.2.2.2.1
    have h28 := hD.2.2.2.2.2.2.2.2.2.2.2.2.2.2.2.2.2.2.2.2.2.2.2.2.2.2.2.2.1
    have h29 := hD.2.2.2.2.2.2.2.2.2.2.2.2.2.2.2.2.2.2.2.2.2.2.2.2.2.2.2.2.2.1
    have h30 := hD.2.2.2.2.2.2.2.2.2.2.2.2.2.2.2.2.2.2.2.2.2.2.2.2.2.2.2.2.2.2
    clear hD
    simp only [fillL, Act.put, List.setIfInBounds_toArray, List.set_cons_zero, List.set_cons_succ, List.getD_cons_zero, List.getD_cons_succ, Is] at hK ⊢
    simp only [h0, h2, h3, h6, h7, h8, h9, h10, h11, h12, h15, h18, h19, h20, h21, h22, h23, h24, h25, h26, h27, h28, h29, h30] at hK ⊢
    clear h0 h2 h3 h6 h7 h8 h9 h10 h11 h12 h15 h18 h19 h20 h21 h22 h23 h24 h25 h26 h27 h28 h29 h30
    refine ite_yes (by rfl) ?_
    go_simp
    exact hK _ _ _ rfl (Grew.refl _) rfl
  refine ⟨?_, ?_⟩
  · intro y w2 hG hD K hK
    simp only [depsH, List.getD_cons_zero, List.getD_cons_succ, Is, and_true] at hD
    have h0 := hD.1
    have h1 := hD.2.1
    have h2 := hD.2.2.1
    have h3 := hD.2.2.2.1
    have h4 := hD.2.2.2.2.1
    have h5 := hD.2.2.2.2.2.1
    have h6 := hD.2.2.2.2.2.2.1
    have h7 := hD.2.2.2.2.2.2.2.1
    have h8 := hD.2.2.2.2.2.2.2.2.1
    have h9 := hD.2.2.2.2.2.2.2.2.2.1
    have h10 := hD.2.2.2.2.2.2.2.2.2.2.1
    have h11 := hD.2.2.2.2.2.2.2.2.2.2.2.1
    have h12 := hD.2.2.2.2.2.2.2.2.2.2.2.2.1
    have h13 := hD.2.2.2.2.2.2.2.2.2.2.2.2.2.1
    have h14 := hD.2.2.2.2.2.2.2.2.2.2.2.2.2.2.1
    have h15 := hD.2.2.2.2.2.2.2.2.2.2.2.2.2.2.2.1
    have h16 := hD.2.2.2.2.2.2.2.2.2.2.2.2.2.2.2.2.1
    have h17 := hD.2.2.2.2.2.2.2.2.2.2.2.2.2.2.2.2.2.1
    have h18 := hD.2.2.2.2.2.2.2.2.2.2.2.2.2.2.2.2.2.2.1
    have h19 := hD.2.2.2.2.2.2.2.2.2.2.2.2.2.2.2.2.2.2.2.1
    have h20 := hD.2.2.2.2.2.2.2.2.2.2.2.2.2.2.2.2.2.2.2.2.1
    have h21 := hD.2.2.2.2.2.2.2.2.2.2.2.2.2.2.2.2.2.2.2.2.2.1
    have h22 := hD.2.2.2.2.2.2.2.2.2.2.2.2.2.2.2.2.2.2.2.2.2.2.1
    have h23 := hD.2.2.2.2.2.2.2.2.2.2.2.2.2.2.2.2.2.2.2.2.2.2.2.1
    have h24 := hD.2.2.2.2.2.2.2.2.2.2.2.2.2.2.2.2.2.2.2.2.2.2.2.2.1
    have h25 := hD.2.2.2.2.2.2.2.2.2.2.2.2.2.2.2.2.2.2.2.2.2.2.2.2.2.1
    have h26 := hD.2.2.2.2.2.2.2.2.2.2.2.2.2.2.2.2.2.2.2.2.2.2.2.2.2.2.1
    have h27 := hD.2.2.2.2.2.2.2.2.2.2.2.2.2.2.2.2.2.2.2.2.2.2.2.2.2.2.2.1
    have h28 := hD.2.2.2.2.2.2.2.2.2.2.2.2.2.2.2.2.2.2.2.2.2.2.2.2.2.2.2.2.1
    have h29 := hD.2.2.2.2.2.2.2.2.2.2.2.2.2.2.2.2.2.2.2.2.2.2.2.2.2.2.2.2.2.1
    have h30 := hD.2.2.2.2.2.2.2.2.2.2.2.2.2.2.2.2.2.2.2.2.2.2.2.2.2.2.2.2.2.2.1
    have h31 := hD.2.2.2.2.2.2.2.2.2.2.2.2.2.2.2.2.2.2.2.2.2.2.2.2.2.2.2.2.2.2.2
    clear hD
    simp only [fillL, Act.put, List.setIfInBounds_toArray, List.set_cons_zero, List.set_cons_succ, List.getD_cons_zero, List.getD_cons_succ, Is] at hK ⊢
    simp only [h0, h2, h3, h6, h7, h8, h9, h10, h11, h12, h15, h18, h19, h20, h21, h22, h23, h24, h25, h26, h27, h28, h29, h30, h31] at hK ⊢
    clear h0 h2 h3 h6 h7 h8 h9 h10 h11 h12 h15 h18 h19 h20 h21 h22 h23 h24 h25 h26 h27 h28 h29 h30 h31
    refine ite_yes (by rfl) ?_
    go_simp
    exact hK _ _ _ rfl (Grew.refl _) rfl
  trivial
end Go.Proofs.Ytfbeepkogcmlmaa

/-
  Trees: Size and At, by the iterator over a tree's nodes. Conditions: the tree can be read.
-/
namespace Go.Proofs.Ytfbeepkogcmlmaa
open Go Go.ChangeShapes Go.WideShapes Go.ChangeAt Go.RowKit Go.Joins Go.Deep Go.Shelf
set_option linter.unusedVariables false
set_option linter.unusedSimpArgs false
attribute [local go_sem] Oper.semAt_some

/-- Between two rounds of Size. -/
def SzI (w : World) (n : Nat) (W : World) : Prop := W.heap[w.heap.size + 1]? = some (.cells #[.int .i64 n] 3 (0, 0)) ∧ Grew w W
theorem SzI.own (w : World) {B : Nat} (hB : w.heap.size ≤ B) : OwnFrom B (fun (s : List (Visit (fun _ => True) w)) W => SzI w s.length W) := by
  rintro s A C row ⟨h1, h3⟩ hg hr
  exact ⟨kept_cells hg (fun r e => (hr r e).2) h1 rfl, grew_turn h3 hg (fun r e => (hr r e).1) hB⟩
/-- Between two rounds of At. -/
def AtI (w : World) (n k : Nat) (W : World) : Prop :=
  k ≤ n ∧ W.heap[w.heap.size + 2]? = some (.cells #[.int .i64 0, .int .i64 0, .int .u64 0, .string ⟨#[]⟩, .slice none 0 0, .slice none 0 0] 26 (0, 0)) ∧ W.heap[w.heap.size + 3]? = some (.cells #[.bool false] 4 (0, 0)) ∧
    W.heap[w.heap.size + 4]? = some (.cells #[.int .i64 k] 3 (0, 0)) ∧ W.heap[w.heap.size + 1]? = some (.cells #[.int .i64 n] 3 (0, 0)) ∧ Grew w W
/-- Where At has found the node. -/
def AtX (w : World) (n : Nat) (ps : List (Nat × Tr)) (W : World) : Prop :=
  ∃ b x c0 c1 c2 c3 c4 c5, ps[n]? = some (b, x) ∧ W.heap[w.heap.size + 2]? = some (.cells #[c0, c1, c2, c3, c4, c5] 26 (0, 0)) ∧ W.heap[w.heap.size + 3]? = some (.cells #[.bool true] 4 (0, 0)) ∧
    NodeAt W x (.agg #[c0, c1, c2, c3, c4, c5]) ∧ Grew w W
theorem cellsK_turn {W W' : World} {row : Option Nat} (hg : W.grownBy W' row) (hr : ∀ r, row = some r → ∃ o : Obj, W.heap[r]? = some o ∧ o.isCells = false) : CellsK W W' := fun k o hk ho => kept_cells hg hr hk ho
theorem AtI.own (w : World) (n : Nat) {B : Nat} (hB : w.heap.size ≤ B) : OwnFrom B (fun (s : List (Visit Few w)) W => AtI w n s.length W) := by
  rintro s A C row ⟨h0, h1, h2, h3, h4, h5⟩ hg hr
  have hc := fun r e => (hr r e).2
  exact ⟨h0, kept_cells hg hc h1 rfl, kept_cells hg hc h2 rfl, kept_cells hg hc h3 rfl, kept_cells hg hc h4 rfl, grew_turn h5 hg (fun r e => (hr r e).1) hB⟩
theorem AtX.own (w : World) (n : Nat) {B : Nat} (hB : w.heap.size ≤ B) : OwnFrom B (fun (s : List (Visit Few w)) W => AtX w n (s.map Visit.key) W) := by
  rintro s A C row ⟨b, x, c0, c1, c2, c3, c4, c5, h0, h1, h2, h3, h5⟩ hg hr
  have hc := fun r e => (hr r e).2
  exact ⟨b, x, c0, c1, c2, c3, c4, c5, h0, kept_cells hg hc h1 rfl, kept_cells hg hc h2 rfl, h3.cells (cellsK_turn hg hc), grew_turn h5 hg (fun r e => (hr r e).1) hB⟩
end Go.Proofs.Ytfbeepkogcmlmaa

/-
  Normal forms: few. Conditions: the argument can be read.
-/
namespace Go.Proofs.Ytfbeepkogcmlmaa
open Go Go.ChangeShapes Go.WideShapes Go.ChangeAt Go.RowKit Go.Joins Go.Deep
set_option linter.unusedVariables false
set_option linter.unusedSimpArgs false

/-- The law's argument, cut. -/
def cutT (t : Tr) : Tr := (cutTr 60 (120 - 1) t).1
theorem cutT_size (t : Tr) : (cutT t).size ≤ 120 := by unfold cutT; have := cutTr_size 60 t (120 - 1); omega
set_option maxRecDepth 100000 in
theorem few09_any (t : Tr) (v : Value) (w : World) (hn : NodeAt w t v) : Calls Try.prog 9 #[v] w fun r w' => ∃ v', r = .returned v' ∧ NodeAt w' (cutT t) v' ∧ Grew w w' := by
  have HN := Lib.hid hn
  obtain ⟨k, n, u, s, a4, n4, c4, a5, n5, c5, rfl⟩ := hn.node6
  clear hn
  go_enter Try.func9, Try.ntmps9
  go_wp2_with fail
  have hg1 := (Grew.refl w).alloc (.cells #[.int .i64 k, .int .i64 n, .int .u64 u, .string s, .slice a4 n4 c4, .slice a5 n5 c5] 26)
  have hs1 : (w.alloc (.cells #[.int .i64 k, .int .i64 n, .int .u64 u, .string s, .slice a4 n4 c4, .slice a5 n5 c5] 26)).heap.size = w.heap.size + 1 := World.size_alloc _ _
  generalize (w.alloc (.cells #[.int .i64 k, .int .i64 n, .int .u64 u, .string s, .slice a4 n4 c4, .slice a5 n5 c5] 26)) = w1 at *
  have hb2 := heap_alloc_new w1 (.cells #[.int .i64 0, .int .i64 0, .int .u64 0, .string ⟨#[]⟩, .slice none 0 0, .slice none 0 0] 26)
  have hg2 := (Grew.refl w1).alloc (.cells #[.int .i64 0, .int .i64 0, .int .u64 0, .string ⟨#[]⟩, .slice none 0 0, .slice none 0 0] 26)
  generalize (w1.alloc (.cells #[.int .i64 0, .int .i64 0, .int .u64 0, .string ⟨#[]⟩, .slice none 0 0, .slice none 0 0] 26)) = w2 at *
  rw [hs1] at hb2
  have HG := Lib.hid (hg1.trans hg2)
  refine (cut_node_any 120 60 (by omega) (by omega) (by omega) t _ w2 (HN.out.grew HG.out)).mono ?_
  rintro r w3 ⟨v1, rfl, ho1, hg3⟩
  have hb3 := hg3.heap hb2
  have HO := Lib.hid ho1
  obtain ⟨rk, rn, ru, rs, ra4, rn4, rc4, ra5, rn5, rc5, rfl⟩ := ho1.node6
  have HFIN : Hid (NodeAt (store6 w3 (w.heap.size + 1) (.int .i64 rk) (.int .i64 rn) (.int .u64 ru) (.string rs) (.slice ra4 rn4 rc4) (.slice ra5 rn5 rc5)) (cutT t) (.agg #[.int .i64 rk, .int .i64 rn, .int .u64 ru, .string rs, .slice ra4 rn4 rc4, .slice ra5 rn5 rc5]) ∧ Grew w (store6 w3 (w.heap.size + 1) (.int .i64 rk) (.int .i64 rn) (.int .u64 ru) (.string rs) (.slice ra4 rn4 rc4) (.slice ra5 rn5 rc5))) := by
    have hT : Moved (fun k => k = w.heap.size + 1) w3 (store6 w3 (w.heap.size + 1) (.int .i64 rk) (.int .i64 rn) (.int .u64 ru) (.string rs) (.slice ra4 rn4 rc4) (.slice ra5 rn5 rc5)) := moved_store6 w3 (w.heap.size + 1) _ _ _ _ _ _
    have h2 := (Array.getElem?_eq_some_iff.1 hb2).1
    have h3 := hg3.size
    generalize (store6 w3 (w.heap.size + 1) (.int .i64 rk) (.int .i64 rn) (.int .u64 ru) (.string rs) (.slice ra4 rn4 rc4) (.slice ra5 rn5 rc5)) = W at *
    refine ⟨(HO.out.kept hT (fun g hg e => ?_)).node, Moved.fresh (HG.out.trans hg3) hT (fun g e => by omega)⟩
    have := hg.1; omega
  have z0 := row_cellT hb3 0 _ rfl
  have z1 := row_cellT hb3 1 _ rfl
  have z2 := row_cellT hb3 2 _ rfl
  have z3 := row_cellT hb3 3 _ rfl
  have z4 := row_cellT hb3 4 _ rfl
  have z5 := row_cellT hb3 5 _ rfl
  have f0 := row_frozen hb3 0
  have f1 := row_frozen hb3 1
  have f2 := row_frozen hb3 2
  have f3 := row_frozen hb3 3
  have f4 := row_frozen hb3 4
  have f5 := row_frozen hb3 5
  clear hg1 hs1 hb2 hg2 ho1 hg3 hb3
  go_wp2_with fail
  refine bodyPost_ret (v := .agg #[.int .i64 rk, .int .i64 rn, .int .u64 ru, .string rs, .slice ra4 rn4 rc4, .slice ra5 rn5 rc5]) (by simp [results, Try.results9, go_sem, z0, z1, z2, z3, z4, z5]) rfl ?_
  exact ⟨_, rfl, HFIN.out⟩
end Go.Proofs.Ytfbeepkogcmlmaa

/-
  A node stored into a node variable: one law. Conditions: the variable's block is there.
-/
namespace Go.Proofs.Ytfbeepkogcmlmaa
open Go Go.ChangeShapes Go.WideShapes Go.ChangeAt Go.RowKit Go.Joins Go.Deep
set_option linter.unusedVariables false
set_option linter.unusedSimpArgs false

set_option maxRecDepth 100000 in
theorem wp_store6 {o : Oper} {a : Act} {w : World} {K : Act → World → Prop} {Q : Exit → Act → World → Prop} (p x : Operand) (ho : o.op = .store 26 p x) (hd : o.dst = none) (g : Nat) (k n u : Int) (s : ByteArray) (a4 : Option Addr) (n4 c4 : Nat) (a5 : Option Addr) (n5 c5 : Nat)
    (hp : a.eval p = .pointer (some ⟨g, 0, none⟩)) (hx : a.eval x = .agg #[.int .i64 k, .int .i64 n, .int .u64 u, .string s, .slice a4 n4 c4, .slice a5 n5 c5]) (b0 b1 b2 b3 b4 b5 : Value)
    (hz : w.heap[g]? = some (.cells #[b0, b1, b2, b3, b4, b5] 26 (0, 0)))
    (h : ∀ w', Moved (fun k => k = g) w w' → w'.heap[g]? = some (.cells #[.int .i64 k, .int .i64 n, .int .u64 u, .string s, .slice a4 n4 c4, .slice a5 n5 c5] 26 (0, 0)) → K a w') : o.wp Try.prog a w K Q := by
  have hk := h _ (moved_store6 w g (.int .i64 k) (.int .i64 n) (.int .u64 u) (.string s) (.slice a4 n4 c4) (.slice a5 n5 c5)) (heap_store6 hz _ _ _ _ _ _)
  have HK := Lib.hid hk
  clear h hk
  have z0 := row_cellT hz 0 _ rfl
  have z1 := row_cellT hz 1 _ rfl
  have z2 := row_cellT hz 2 _ rfl
  have z3 := row_cellT hz 3 _ rfl
  have z4 := row_cellT hz 4 _ rfl
  have z5 := row_cellT hz 5 _ rfl
  have f0 := row_frozen hz 0
  have f1 := row_frozen hz 1
  have f2 := row_frozen hz 2
  have f3 := row_frozen hz 3
  have f4 := row_frozen hz 4
  have f5 := row_frozen hz 5
  clear hz
  unfold Oper.wp execOp
  simp only [ho]
  rw [hp, hx]
  simp [hd, go_sem, z0, z1, z2, z3, z4, z5, f0, f1, f2, f3, f4, f5]
  exact HK.out
theorem wpList_store6 {ops : Array Oper} {rest : List Oper} {o : Oper} {a : Act} {w : World} {Q : Exit → Act → World → Prop} (hgd : o.guard = none) (p x : Operand) (ho : o.op = .store 26 p x) (hd : o.dst = none) (g : Nat) (k n u : Int) (s : ByteArray) (a4 : Option Addr) (n4 c4 : Nat) (a5 : Option Addr) (n5 c5 : Nat)
    (hp : a.eval p = .pointer (some ⟨g, 0, none⟩)) (hx : a.eval x = .agg #[.int .i64 k, .int .i64 n, .int .u64 u, .string s, .slice a4 n4 c4, .slice a5 n5 c5]) (b0 b1 b2 b3 b4 b5 : Value)
    (hz : w.heap[g]? = some (.cells #[b0, b1, b2, b3, b4, b5] 26 (0, 0)))
    (h : ∀ w', Moved (fun k => k = g) w w' → w'.heap[g]? = some (.cells #[.int .i64 k, .int .i64 n, .int .u64 u, .string s, .slice a4 n4 c4, .slice a5 n5 c5] 26 (0, 0)) → wpList Try.prog ops Q rest a w') : wpList Try.prog ops Q (o :: rest) a w :=
  wpList_plain hgd fun _ hK => wp_store6 p x ho hd g k n u s a4 n4 c4 a5 n5 c5 hp hx b0 b1 b2 b3 b4 b5 hz fun w' hm hb => hK _ _ (h w' hm hb)
end Go.Proofs.Ytfbeepkogcmlmaa

/-
  Plain lemma, no program: a region that leaves its order open, a tail of it in the text's order; its operations may lay down blocks of their own.
-/
namespace Go.Proofs.Ytfbeepkogcmlmaa
set_option linter.unusedSimpArgs false
set_option linter.unusedVariables false
open Go Go.RowKit
section
variable {P : Program} {ops : Array Oper}
/-- What an operation says of its own blocks: new ones alone. -/
def sepOK (q : Option (Value → (Nat → Prop) → World → Prop)) (v : Value) (w w' : World) : Prop := match q with | none => True | some ψ => ∃ S : Nat → Prop, ψ v S w' ∧ ∀ g, S g → w.heap.size ≤ g ∧ g < w'.heap.size
/-- The blocks of the operations that have been: each as it was said, all apart. -/
structure SepI (Ψ : Nat → Option (Value → (Nat → Prop) → World → Prop)) (L : Nat → Prop) (y : Nat → Value) (σ : Nat → Nat → Prop) (w0 w : World) : Prop where
  said : ∀ j, L j → ∀ ψ, Ψ j = some ψ → ψ (y j) (σ j) w
  bound : ∀ j, L j → ∀ g, σ j g → w0.heap.size ≤ g ∧ g < w.heap.size
  apart : ∀ j k, L j → L k → j ≠ k → ∀ g, σ j g → ¬ σ k g
theorem SepI.sub {Ψ : Nat → Option (Value → (Nat → Prop) → World → Prop)} {L L' : Nat → Prop} {y : Nat → Value} {σ : Nat → Nat → Prop} {w0 w : World} (h : SepI Ψ L y σ w0 w) (hs : ∀ j, L' j → L j) : SepI Ψ L' y σ w0 w :=
  ⟨fun j hj => h.said j (hs j hj), fun j hj => h.bound j (hs j hj), fun j k hj hk => h.apart j k (hs j hj) (hs k hk)⟩
theorem SepI.step {Ψ : Nat → Option (Value → (Nat → Prop) → World → Prop)} {R : World → World → Prop} {L : Nat → Prop} {y : Nat → Value} {σ : Nat → Nat → Prop} {w0 w w' : World} (h : SepI Ψ L y σ w0 w) (hsz : ∀ a b, R a b → a.heap.size ≤ b.heap.size) (hsΨ : ∀ j ψ, Ψ j = some ψ → ∀ v S w w', R w w' → ψ v S w → ψ v S w')
    (i : Nat) (v : Value) (hg : R w0 w) (hr : R w w') (hse : sepOK (Ψ i) v w w') : ∃ σ2, SepI Ψ (fun j => (L j ∧ j ≠ i) ∨ j = i) (fun k => if k = i then v else y k) σ2 w0 w' := by
  obtain ⟨S, hS, hb⟩ : ∃ S : Nat → Prop, (∀ ψ, Ψ i = some ψ → ψ v S w') ∧ ∀ g, S g → w.heap.size ≤ g ∧ g < w'.heap.size := by
    cases hq : Ψ i with
    | none => exact ⟨fun _ => False, fun ψ e => (by cases e), fun g h => h.elim⟩
    | some ψ =>
      rw [hq] at hse
      obtain ⟨S, h1, h2⟩ := hse
      exact ⟨S, fun ψ' e => by cases e; exact h1, h2⟩
  have h1 := hsz _ _ hg
  have h2 := hsz _ _ hr
  refine ⟨fun k => if k = i then S else σ k, fun j hj ψ hψ => ?_, fun j hj g hs => ?_, fun j k hj hk hne g hs => ?_⟩
  · by_cases hji : j = i
    · subst hji; simp only [if_true]; exact hS ψ hψ
    · simp only [hji, if_false]
      exact hsΨ j ψ hψ _ _ _ _ hr (h.said j ((hj.resolve_right hji).1) ψ hψ)
  · by_cases hji : j = i
    · subst hji; simp only [if_true] at hs; have := hb g hs; omega
    · simp only [hji, if_false] at hs; have := h.bound j ((hj.resolve_right hji).1) g hs; omega
  · by_cases hji : j = i
    · by_cases hki : k = i
      · exact absurd (hji.trans hki.symm) hne
      · simp only [hji, hki, if_true, if_false] at hs ⊢
        intro hk2; have := h.bound k ((hk.resolve_right hki).1) g hk2; have := hb g hs; omega
    · by_cases hki : k = i
      · simp only [hji, hki, if_true, if_false] at hs ⊢
        intro hk2; have := h.bound j ((hj.resolve_right hji).1) g hs; have := hb g hk2; omega
      · simp only [hji, hki, if_false] at hs ⊢
        exact h.apart j k ((hj.resolve_right hji).1) ((hk.resolve_right hki).1) hne g hs
def opWordS (P : Program) (ops : Array Oper) (R : World → World → Prop) (D : Array (List Nat)) (Φ : Nat → Value → World → Prop) (Ψ : Nat → Option (Value → (Nat → Prop) → World → Prop)) (a0 : Act) (w0 : World) (i : Nat) (o : Oper) : Prop :=
  ∀ (y : Nat → Value) (w : World), R w0 w → (∀ j ∈ D.getD i [], Φ j (y j) w) → ∀ K : Act → World → Prop,
    (∀ v w', R w w' → Φ i v w' → sepOK (Ψ i) v w w' → K ((fillL y (canonL ops D i) a0).put o.dst v) w') →
    if Region.wanted o (yielded ops (fillL y (canonL ops D i) a0).tmps) then o.wp P (fillL y (canonL ops D i) a0) w K (fun _ _ _ => False) else K ((fillL y (canonL ops D i) a0).put o.dst undef) w
def wordS (P : Program) (ops : Array Oper) (R : World → World → Prop) (Φ : List (Value → World → Prop)) (Ψ : List (Option (Value → (Nat → Prop) → World → Prop))) (a0 : Act) (w0 : World) (i : Nat) (o : Oper) (d : List Nat) (c : List (Nat × Nat)) : Prop :=
  ∀ (y : Nat → Value) (w : World), R w0 w → depsH Φ y w d → ∀ K : Act → World → Prop,
    (∀ a' v w', a' = (fillL y c a0).put o.dst v → R w w' → Φ.getD i (fun _ _ => True) v w' → sepOK (Ψ.getD i none) v w w' → K a' w') →
    if Region.wanted o (yielded ops (fillL y c a0).tmps) then o.wp P (fillL y c a0) w K (fun _ _ _ => False) else K ((fillL y c a0).put o.dst undef) w
def allWS (P : Program) (ops : Array Oper) (R : World → World → Prop) (Φ : List (Value → World → Prop)) (Ψ : List (Option (Value → (Nat → Prop) → World → Prop))) (a0 : Act) (w0 : World) : Nat → List Oper → List (List Nat) → List (List (Nat × Nat)) → Prop
  | _, [], _, _ => True
  | i, o :: r, d :: ds, c :: cs => wordS P ops R Φ Ψ a0 w0 i o d c ∧ allWS P ops R Φ Ψ a0 w0 (i + 1) r ds cs
  | _, _ :: _, _, _ => False
def stS (R : World → World → Prop) : List (Option (Value → (Nat → Prop) → World → Prop)) → Prop
  | [] => True
  | none :: r => stS R r
  | some ψ :: r => (∀ v S w w', R w w' → ψ v S w → ψ v S w') ∧ stS R r
theorem stS_get {R : World → World → Prop} : ∀ {Ψ : List (Option (Value → (Nat → Prop) → World → Prop))}, stS R Ψ → ∀ j ψ, Ψ.getD j none = some ψ → ∀ v S w w', R w w' → ψ v S w → ψ v S w'
  | [], _, j, ψ, h => by simp at h
  | q :: r, hs, 0, ψ, h => by
    simp at h; subst h
    exact hs.1
  | none :: r, hs, j + 1, ψ, h => by
    simp only [List.getD_cons_succ] at h
    exact stS_get (Ψ := r) hs j ψ h
  | some _ :: r, hs, j + 1, ψ, h => by
    simp only [List.getD_cons_succ] at h
    exact stS_get (Ψ := r) hs.2 j ψ h
theorem allW_takeS {R : World → World → Prop} {Φ : List (Value → World → Prop)} {Ψ : List (Option (Value → (Nat → Prop) → World → Prop))} {a0 : Act} {w0 : World} (D0 : List (List Nat)) (C0 : List (List (Nat × Nat))) (hC : ∀ i, i < ops.size → C0.getD i [] = canonL ops D0.toArray i) :
    ∀ (l : List Oper) (i : Nat) (D : List (List Nat)) (C : List (List (Nat × Nat))), i + l.length ≤ ops.size → (∀ k, D[k]? = D0[i + k]?) → (∀ k, C[k]? = C0[i + k]?) → allWS P ops R Φ Ψ a0 w0 i l D C →
      allWords (opWordS P ops R D0.toArray (fun j => Φ.getD j (fun _ _ => True)) (fun j => Ψ.getD j none) a0 w0) i l := by
    intro l
    induction l with
    | nil => intros; trivial
    | cons o r ih =>
      intro i D C hl hD hC' h
      match D, C, h with
      | d :: ds, c :: cs, h =>
        obtain ⟨h1, h2⟩ := h
        refine ⟨?_, ih (i + 1) ds cs (by simp at hl; omega) (fun k => ?_) (fun k => ?_) h2⟩
        · have hd : D0.toArray.getD i [] = d := by
            have := hD 0
            simp at this
            simp [Array.getD_eq_getD_getElem?, ← this]
          have hc : canonL ops D0.toArray i = c := by
            rw [← hC i (by simp at hl; omega)]
            have := hC' 0
            simp at this
            simp [List.getD_eq_getElem?_getD, ← this]
          intro y w hR hj K hK
          rw [hd] at hj
          rw [hc] at hK ⊢
          exact h1 y w hR (depsH_of _ hj) K (fun a' v w' he hr hφ hs => by subst he; exact hK v w' hr hφ hs)
        · have := hD (k + 1)
          simp at this
          rw [this]; congr 1; omega
        · have := hC' (k + 1)
          simp at this
          rw [this]; congr 1; omega

theorem wpAny_of_factsS {R : World → World → Prop} {D : Array (List Nat)} {Φ : Nat → Value → World → Prop} {Ψ : Nat → Option (Value → (Nat → Prop) → World → Prop)} {a0 : Act} {w0 : World} {Q : Exit → Act → World → Prop}
    (hRt : ∀ {a b c : World}, R a b → R b c → R a c) (hchk : factsOK ops D = true) (hst : ∀ j v w w', R w w' → Φ j v w → Φ j v w') (hrr : ∀ w, R w w) (hsz : ∀ a b, R a b → a.heap.size ≤ b.heap.size) (hsΨ : ∀ j ψ, Ψ j = some ψ → ∀ v S w w', R w w' → ψ v S w → ψ v S w')
    {n : Nat} (hop : ∀ i o, i < n → ops[i]? = some o → opWordS P ops R D Φ Ψ a0 w0 i o) (hn : n < ops.size) (hs : Region.sinkB .any ops n = true) (hc : Region.chainB .any ops n = true)
    (hq : Region.seqB .any ops (ops.size - n) n (headA ops n) = true)
    (hfin : ∀ y w, R w0 w → (∀ j, j < n → Φ j (y j) w) → (∃ σ, SepI Ψ (fun j => j < n) y σ w0 w) → wpList P ops Q (ops.toList.drop n) (fillL y ((pairsOf ops).filter fun q => decide (q.2 < n)) a0) w) :
    ∀ (f : Nat) (listed : Array Bool) (a : Act) (w : World) (y : Nat → Value), ((List.range n).filter fun j => !listed.getD j true).length ≤ f →
      InvF ops R D Φ a0 w0 listed a w y → HeadInv .any ops n listed → (∃ σ, SepI Ψ (fun j => listed.getD j false = true) y σ w0 w) → wpAny P .any ops Q (f + (ops.size - n)) listed a w := by
  simp only [factsOK, Bool.and_eq_true, List.all_eq_true, List.mem_range] at hchk
  obtain ⟨hkeys, hrows⟩ := hchk
  -- nothing ready: all has been listed
  have hall : ∀ (listed : Array Bool), listed.size = ops.size → Region.ready .any ops listed = [] → ∀ j, j < ops.size → listed.getD j false = true := by
    intro listed hs hnil j
    induction j using Nat.strongRecOn with
    | ind j ih =>
      intro hj
      cases hl : listed.getD j false with
      | true => rfl
      | false =>
        exfalso
        have hmem : j ∈ Region.ready .any ops listed := by
          rw [mem_ready]
          refine ⟨by rw [listed_cases (by omega)]; exact hl, ops[j], Array.getElem?_eq_getElem hj, fun e he hb => ?_⟩
          have hrow := hrows j hj
          rw [Array.getElem?_eq_getElem hj] at hrow
          simp only [Bool.and_eq_true, List.all_eq_true, decide_eq_true_eq] at hrow
          have hlt := hrow.1 e.on (List.mem_map.2 ⟨e, List.mem_filter.2 ⟨by simpa using he, hb⟩, rfl⟩)
          exact ih e.on hlt (by omega)
        rw [hnil] at hmem
        cases hmem
  -- the head has been listed
  have hdone : ∀ (m : Nat) (listed : Array Bool) (a : Act) (w : World) (y : Nat → Value), InvF ops R D Φ a0 w0 listed a w y → HeadInv .any ops n listed → (∃ σ, SepI Ψ (fun j => listed.getD j false = true) y σ w0 w) → (∀ j, j < n → listed.getD j false = true) → wpAny P .any ops Q (m + (ops.size - n)) listed a w := by
    intro m listed a w y hI hH hS hl
    have he : listed = headA ops n := headA_eq hI.size (by omega) hl hH.tail
    have hlen : (ops.toList.drop n).length = ops.size - n := by simp
    have hw := hfin y w hI.grown (fun j hj => hI.facts j (hl j hj)) (hS.imp fun σ h => h.sub fun j hj => hl j hj)
    rw [fillL_filter y _ _ a0 hkeys, ← hI.act] at hw
    · rw [Nat.add_comm, ← hlen]
      refine wpAny_seq_more (ops.toList.drop n) m n listed a w (fun j => by simp) ?_ hw
      rw [hlen, he]; exact hq
    · rintro ⟨d, j⟩ hq' hp
      simp only [decide_eq_false_iff_not] at hp
      have hdst := mem_pairsOf.1 hq'
      have hj : j < ops.size := by
        rcases Nat.lt_or_ge j ops.size with h' | h'
        · exact h'
        · rw [Array.getElem?_eq_none h'] at hdst; cases hdst
      exact hI.open_ j d (hH.tail j (by omega) hj) hdst
  intro f
  induction f with
  | zero =>
    intro listed a w y hlen hI hH hS
    refine hdone 0 listed a w y hI hH hS fun j hj => ?_
    cases hl : listed.getD j false with
    | true => rfl
    | false =>
      exfalso
      have h0 : ((List.range n).filter fun j => !listed.getD j true) = [] := List.length_eq_zero_iff.1 (by omega)
      have : j ∈ ((List.range n).filter fun j => !listed.getD j true) := List.mem_filter.2 ⟨List.mem_range.2 hj, by rw [listed_cases (by rw [hI.size]; omega), hl]; rfl⟩
      rw [h0] at this; cases this
  | succ fuel ih =>
    intro listed a w y hlen hI hH hS
    by_cases hh : ∀ j, j < n → listed.getD j false = true
    · exact hdone (fuel + 1) listed a w y hI hH hS hh
    obtain ⟨j0, hj0, hl0⟩ : ∃ j, j < n ∧ listed.getD j true = false := by
      apply Classical.byContradiction
      intro hno
      refine hh fun j hj => ?_
      cases hl : listed.getD j false with
      | true => rfl
      | false => exact absurd ⟨j, hj, by rw [listed_cases (by rw [hI.size]; omega)]; exact hl⟩ hno
    rw [show fuel + 1 + (ops.size - n) = (fuel + (ops.size - n)) + 1 by omega]
    refine ⟨fun hnil => ?_, fun i hi => ?_⟩
    · have := hall listed hI.size hnil j0 (by omega)
      rw [← listed_cases (by rw [hI.size]; omega), hl0] at this; cases this
    have hin : i < n := by
      rcases Nat.lt_or_ge i n with h | h
      · exact h
      · exact absurd hi (tail_waits hs hc hn hH _ j0 rfl hj0 hl0 i h)
    obtain ⟨hun, o, ho, hedges⟩ := mem_ready.1 hi
    have hilt : i < ops.size := (Array.getElem?_eq_some_iff.1 ho).1
    have hunf : listed.getD i false = false := by rw [← listed_cases (by rw [hI.size]; exact hilt)]; exact hun
    have hrow := hrows i hilt
    rw [ho] at hrow
    simp only [Bool.and_eq_true, List.all_eq_true, decide_eq_true_eq, List.any_eq_true, Bool.or_eq_true, beq_iff_eq, List.contains_iff_mem] at hrow
    -- what i waits for has been listed
    have hD : ∀ k ∈ D.getD i [], listed.getD k false = true := by
      intro k hk
      obtain ⟨e, he, hek⟩ := hrow.2 k hk
      obtain ⟨ed, hed, rfl⟩ := List.mem_map.1 he
      obtain ⟨hed1, hed2⟩ := List.mem_filter.1 hed
      have hl := hedges ed (by simpa using hed1) hed2
      rcases hek with rfl | hek
      · exact hl
      · exact hI.closed _ hl k hek
    have hcan : fillL y (canonL ops D i) a0 = a := by
      rw [hI.act]
      refine fillL_filter y _ _ a0 hkeys ?_
      rintro ⟨d, j⟩ hq hp
      simp only [Bool.not_eq_false', Bool.or_eq_true, beq_iff_eq] at hp
      have hdst := mem_pairsOf.1 hq
      refine hI.open_ j d ?_ hdst
      rcases hp with rfl | hw
      · exact hun
      · have hjlt : j < listed.size := by
          rw [hI.size]
          rcases Nat.lt_or_ge j ops.size with h' | h'
          · exact h'
          · rw [Array.getElem?_eq_none h'] at hdst; cases hdst
        rw [listed_cases hjlt]
        cases hl : listed.getD j false with
        | false => rfl
        | true =>
          have := hI.closed j hl i (by simpa [waits] using hw)
          rw [hunf] at this
          cases this
    have hw := hop i o hin ho y w hI.grown (fun j hj => hI.facts j (hD j hj)) (fun a' w' => ∃ v, a' = a.put o.dst v ∧ R w w' ∧ Φ i v w' ∧ sepOK (Ψ i) v w w')
    rw [hcan] at hw
    have hlen' : ((List.range n).filter fun j => !(listed.setIfInBounds i true).getD j true).length ≤ fuel := by
      have : ((List.range n).filter fun j => !(listed.setIfInBounds i true).getD j true).length < ((List.range n).filter fun j => !listed.getD j true).length := by
        refine filter_lt _ i (fun j hj => ?_) (List.mem_range.2 hin) (by rw [hun]; rfl) ?_
        · by_cases hij : i = j
          · subst hij
            have h2 : i < listed.size := by rw [hI.size]; exact hilt
            simp [h2] at hj
          · rw [getD_set_ne true hij] at hj; exact hj
        · have h2 : i < listed.size := by rw [hI.size]; exact hilt
          simp [h2]
      omega
    have hnext : ∀ v w', R w w' → Φ i v w' → sepOK (Ψ i) v w w' → wpAny P .any ops Q (fuel + (ops.size - n)) (listed.setIfInBounds i true) (a.put o.dst v) w' := by
      intro v w' hr hφ hse
      have h2 : i < listed.size := by rw [hI.size]; exact hilt
      refine ih _ _ _ (fun k => if k = i then v else y k) hlen' ⟨by simp [hI.size], ?_, hRt hI.grown hr, ?_, ?_, ?_⟩ (hH.set hi hin) ?_
      · cases hd : o.dst with
        | none =>
          rw [hI.act]
          show fillL y (pairsOf ops) a0 = _
          refine fillL_congr _ _ _ _ fun p hp => ?_
          have := mem_pairsOf.1 (show (p.1, p.2) ∈ pairsOf ops from hp)
          have hne : p.2 ≠ i := fun he => by rw [he, ho] at this; simp [hd] at this
          simp [hne]
        | some d =>
          rw [hI.act, fillL_set y i v _ a0 d hkeys (mem_pairsOf.2 (by simp [ho, hd]))]
      · intro j hj
        by_cases hji : j = i
        · subst hji; simpa using hφ
        · simp only [hji, if_false]
          rw [getD_set_ne false (Ne.symm hji)] at hj
          exact hst j _ _ _ hr (hI.facts j hj)
      · intro j d hj hdst
        have hji : j ≠ i := fun he => by subst he; simp [h2] at hj
        simp only [hji, if_false]
        rw [getD_set_ne true (Ne.symm hji)] at hj
        exact hI.open_ j d hj hdst
      · intro j hj k hk
        by_cases hji : j = i
        · subst hji; exact getD_set_true (hD k hk)
        · rw [getD_set_ne false (Ne.symm hji)] at hj
          exact getD_set_true (hI.closed j hj k hk)
      · obtain ⟨σ, hσ⟩ := hS
        obtain ⟨σ2, h3⟩ := hσ.step hsz hsΨ i v hI.grown hr hse
        exact ⟨σ2, h3.sub fun j hj => by
          by_cases hji : j = i
          · exact .inr hji
          · rw [getD_set_ne false (Ne.symm hji)] at hj; exact .inl ⟨hj, hji⟩⟩
    unfold wpOp
    simp only [ho]
    have hw2 := hw (fun v w' hr hφ hse => ⟨v, rfl, hr, hφ, hse⟩)
    split at hw2
    · rename_i hwa
      rw [if_pos hwa]
      refine .inl ?_
      have h3 : o.wp P a w (wpAny P .any ops Q (fuel + (ops.size - n)) (listed.setIfInBounds i true)) (fun _ _ _ => False) :=
        Oper.wp_mono (fun a' w' ⟨v, he, hr, hφ, hse⟩ => by subst he; exact hnext v w' hr hφ hse) hw2
      exact wp_exit h3
    · rename_i hwa
      rw [if_neg hwa]
      obtain ⟨v, he, hr, hφ, hse⟩ := hw2
      rw [he]
      exact hnext v w hr hφ hse
where
  wp_exit {o : Oper} {a : Act} {w : World} {K : Act → World → Prop} {Q : Exit → Act → World → Prop} (h : o.wp P a w K (fun _ _ _ => False)) : o.wp P a w K Q := by
    unfold Oper.wp at *
    generalize (execOp a.eval o).run P w = r at *
    cases r with
    | ok n w' =>
      cases n <;> simp only [Oper.upon] at h ⊢
      case enter f args =>
        refine Calls.mono h fun e w'' he => ?_
        cases e with
        | returned v => exact he
        | panicked c => exact he.elim
        | outgrown => obtain ⟨_, _, hq⟩ := he; exact hq.elim
      all_goals exact h
    | halt x w' => cases x <;> simp only [Oper.upon] at h

/-- **A region that draws its order, a tail of it in order; the tables written out (n: the operations ahead of the tail; F: their pairs).** -/
theorem wp_region_tablesS {id : Nat} {a0 : Act} {w0 : World} {Q : Exit → Act → World → Prop} (R : World → World → Prop) (n : Nat) (D : List (List Nat)) (C : List (List (Nat × Nat))) (F : List (Nat × Nat)) (Φ : List (Value → World → Prop)) (Ψ : List (Option (Value → (Nat → Prop) → World → Prop))) (hm : P.follows .mixedOrders = true)
    (hRt : ∀ {a b c : World}, R a b → R b c → R a c) (hrr : ∀ w, R w w) (hd : R w0 w0.drew)
    (hchk : (tablesOK ops D C (pairsOf ops) && decide (F = (pairsOf ops).filter fun q => decide (q.2 < n)) && decide (n < ops.size) && Region.sinkB .any ops n && Region.chainB .any ops n && Region.seqB .any ops (ops.size - n) n (headA ops n)) = true) (hst : stL R Φ) (hsz : ∀ a b, R a b → a.heap.size ≤ b.heap.size) (hsΨ : stS R Ψ)
    (hlen : Φ.length = n)
    (hop : allWS P ops R Φ Ψ a0 w0 0 (ops.toList.take n) D C)
    (hfin : ∀ y w, R w0 w → factsH y w 0 Φ → (∃ σ, SepI (fun j => Ψ.getD j none) (fun j => j < n) y σ w0 w) → wpList P ops Q (ops.toList.drop n) (fillL y F a0) w) : (Code.region id ops true).wp P Q a0 w0 := by
  simp only [Bool.and_eq_true, decide_eq_true_eq] at hchk
  obtain ⟨⟨⟨⟨⟨hchk, hF⟩, hn⟩, hs⟩, hc⟩, hq⟩ := hchk
  simp only [tablesOK, Bool.and_eq_true, decide_eq_true_eq, List.all_eq_true, List.mem_range] at hchk
  obtain ⟨⟨h1, h2⟩, h3⟩ := hchk
  subst hF
  refine wp_region_any hm ?_
  have hfuel : ops.size = n + (ops.size - n) := by omega
  rw [show wpAny P .any ops Q ops.size = wpAny P .any ops Q (n + (ops.size - n)) by rw [← hfuel]]
  refine wpAny_of_factsS (R := R) (D := D.toArray) (Φ := fun j => Φ.getD j (fun _ _ => True)) (Ψ := fun j => Ψ.getD j none) (a0 := a0) (w0 := w0) hRt h1 ?_ hrr hsz ?_ (n := n) (fun i o hi ho => ?_) hn hs hc hq (fun y w hr hf hS => hfin y w hr (factsH_of Φ 0 (by simp) (fun j h => hf j (by omega))) hS) n _ a0 _ (fun j => match (ops[j]?).bind (·.dst) with | some d => a0.tmps.getD d undef | none => undef) ?_ ⟨by simp, ?_, hd, ?_, ?_, ?_⟩ ⟨by simp, fun j oj _ hl => (by rw [getD_replicate_false] at hl; cases hl), fun t _ ht => getD_in (by simpa using ht) (getD_replicate_false _ _)⟩ ⟨fun _ _ => False, fun j hl => (by rw [getD_replicate_false] at hl; cases hl), fun j _ g h => h.elim, fun j k _ _ _ g h => h.elim⟩
  · intro j v w w' hr hφ
    rcases Nat.lt_or_ge j Φ.length with hj | hj
    · have e : Φ.getD j (fun _ _ => True) = Φ[j] := by simp [List.getD_eq_getElem?_getD, hj]
      simp only [e] at hφ ⊢
      exact stL_mem Φ hst _ (List.getElem_mem hj) v w w' hr hφ
    · have e : Φ.getD j (fun _ _ => True) = fun _ _ => True := by simp [List.getD_eq_getElem?_getD, hj]
      simp only [e]
  · intro j ψ hψ v S w w' hr h
    exact stS_get hsΨ j ψ hψ v S w w' hr h
  · have hd2 := allW_takeS D C h3 (ops.toList.take n) 0 D C (by simp; omega) (by simp) (by simp) hop
    have := allWords_get _ 0 i o hd2 (by rw [List.getElem?_take]; simp [hi]; simpa using ho)
    simpa using this
  · exact Nat.le_trans (List.length_filter_le _ _) (by simp)
  · symm
    have : ∀ (L : List (Nat × Nat)), (∀ p ∈ L, (ops[p.2]?).bind (·.dst) = some p.1) → fillL (fun j => match (ops[j]?).bind (·.dst) with | some d => a0.tmps.getD d undef | none => undef) L a0 = a0 := by
      intro L
      induction L with
      | nil => intro _; rfl
      | cons p L ih =>
        intro h
        obtain ⟨d, j⟩ := p
        have hd := h (d, j) (by simp)
        simp only at hd
        show fillL _ L (a0.put (some d) _) = a0
        simp only [hd]
        rw [put_self]
        exact ih (fun p hp => h p (by simp [hp]))
    exact this _ (fun p hp => mem_pairsOf.1 hp)
  · intro j hj
    rw [getD_replicate_false] at hj; cases hj
  · intro j d _ hdst
    simp only [hdst]
    exact put_self a0 d
  · intro j hj
    rw [getD_replicate_false] at hj; cases hj
end
end Go.Proofs.Ytfbeepkogcmlmaa

/-
  Normal: the cut copy of a tree is one's own. Conditions: the tree lies in memory.
-/
namespace Go.Proofs.Ytfbeepkogcmlmaa
open Go Go.ChangeShapes Go.WideShapes Go.ChangeAt Go.RowKit Go.Joins Go.Deep
set_option linter.unusedVariables false
set_option linter.unusedSimpArgs false

/-- A node variable at its zero. -/
abbrev ZV : Obj := .cells #[.int .i64 0, .int .i64 0, .int .u64 0, .string ⟨#[]⟩, .slice none 0 0, .slice none 0 0] 26 (0, 0)
def NewV (v : Value) (S : Nat → Prop) (w : World) : Prop := ∃ g, v = .pointer (some ⟨g, 0, none⟩) ∧ S g ∧ w.heap[g]? = some ZV
theorem NewV.st : ∀ v S w w', Grew w w' → NewV v S w → NewV v S w' := fun _ _ _ _ hg ⟨g, e, h1, h2⟩ => ⟨g, e, h1, hg.heap h2⟩
theorem NewV.made (w : World) : sepOK (some NewV) (.pointer (some ⟨w.heap.size, 0, none⟩)) w (w.alloc ZV) := ⟨fun g => g = w.heap.size, ⟨w.heap.size, rfl, rfl, heap_alloc_new _ _⟩, fun g e => by subst e; exact ⟨Nat.le_refl _, by rw [World.size_alloc]; exact Nat.lt_succ_self _⟩⟩
/-- A tree of one's own. -/
def OwnV (B : Nat) (t : Tr) (v : Value) (S : Nat → Prop) (w : World) : Prop := OwnT w B t v S
theorem OwnV.st (B : Nat) (t : Tr) : ∀ v S w w', Grew w w' → OwnV B t v S w → OwnV B t v S w' := fun _ _ _ _ hg h => OwnT.grew h hg
theorem OwnV.made {w w' : World} {B : Nat} {t : Tr} {v : Value} (hB : B ≤ w.heap.size) (h : OwnT w' w.heap.size t v (Fresh w w')) : sepOK (some (OwnV B t)) v w w' := ⟨Fresh w w', h.base hB, fun g h => h⟩
set_option maxRecDepth 100000 in
theorem few09o_any (t : Tr) (v : Value) (w : World) (hn : NodeAt w t v) : Calls Try.prog 9 #[v] w fun r w' => ∃ v', r = .returned v' ∧ OwnT w' w.heap.size (cutT t) v' (Fresh w w') ∧ Grew w w' := by
  have HN := Lib.hid hn
  obtain ⟨k, n, u, s, a4, n4, c4, a5, n5, c5, rfl⟩ := hn.node6
  clear hn
  go_enter Try.func9, Try.ntmps9
  go_wp2_with fail
  have hg1 := (Grew.refl w).alloc (.cells #[.int .i64 k, .int .i64 n, .int .u64 u, .string s, .slice a4 n4 c4, .slice a5 n5 c5] 26)
  have hs1 : (w.alloc (.cells #[.int .i64 k, .int .i64 n, .int .u64 u, .string s, .slice a4 n4 c4, .slice a5 n5 c5] 26)).heap.size = w.heap.size + 1 := World.size_alloc _ _
  generalize (w.alloc (.cells #[.int .i64 k, .int .i64 n, .int .u64 u, .string s, .slice a4 n4 c4, .slice a5 n5 c5] 26)) = w1 at *
  have hb2 := heap_alloc_new w1 (.cells #[.int .i64 0, .int .i64 0, .int .u64 0, .string ⟨#[]⟩, .slice none 0 0, .slice none 0 0] 26)
  have hg2 := (Grew.refl w1).alloc (.cells #[.int .i64 0, .int .i64 0, .int .u64 0, .string ⟨#[]⟩, .slice none 0 0, .slice none 0 0] 26)
  generalize (w1.alloc (.cells #[.int .i64 0, .int .i64 0, .int .u64 0, .string ⟨#[]⟩, .slice none 0 0, .slice none 0 0] 26)) = w2 at *
  rw [hs1] at hb2
  have HG := Lib.hid (hg1.trans hg2)
  refine (cut_node_any 120 60 (by omega) (by omega) (by omega) t _ w2 (HN.out.grew HG.out)).mono ?_
  rintro r w3 ⟨v1, rfl, ho1, hg3⟩
  have hb3 := hg3.heap hb2
  have HO := Lib.hid ho1
  obtain ⟨rk, rn, ru, rs, ra4, rn4, rc4, ra5, rn5, rc5, rfl⟩ := ho1.node6
  have HFIN : Hid (OwnT (store6 w3 (w.heap.size + 1) (.int .i64 rk) (.int .i64 rn) (.int .u64 ru) (.string rs) (.slice ra4 rn4 rc4) (.slice ra5 rn5 rc5)) w.heap.size (cutT t) (.agg #[.int .i64 rk, .int .i64 rn, .int .u64 ru, .string rs, .slice ra4 rn4 rc4, .slice ra5 rn5 rc5]) (Fresh w (store6 w3 (w.heap.size + 1) (.int .i64 rk) (.int .i64 rn) (.int .u64 ru) (.string rs) (.slice ra4 rn4 rc4) (.slice ra5 rn5 rc5))) ∧ Grew w (store6 w3 (w.heap.size + 1) (.int .i64 rk) (.int .i64 rn) (.int .u64 ru) (.string rs) (.slice ra4 rn4 rc4) (.slice ra5 rn5 rc5))) := by
    have hT : Moved (fun k => k = w.heap.size + 1) w3 (store6 w3 (w.heap.size + 1) (.int .i64 rk) (.int .i64 rn) (.int .u64 ru) (.string rs) (.slice ra4 rn4 rc4) (.slice ra5 rn5 rc5)) := moved_store6 w3 (w.heap.size + 1) _ _ _ _ _ _
    have h2 := (Array.getElem?_eq_some_iff.1 hb2).1
    have h3 := hg3.size
    generalize (store6 w3 (w.heap.size + 1) (.int .i64 rk) (.int .i64 rn) (.int .u64 ru) (.string rs) (.slice ra4 rn4 rc4) (.slice ra5 rn5 rc5)) = W at *
    have h4 := hT.size
    have h5 := HG.out.size
    refine ⟨((HO.out.kept hT (fun g hg e => ?_)).base (by omega)).mono (fun g hg => ?_), Moved.fresh (HG.out.trans hg3) hT (fun g e => by omega)⟩
    · have := hg.1; omega
    · have := hg.1; have := hg.2; exact ⟨by omega, by omega⟩
  have z0 := row_cellT hb3 0 _ rfl
  have z1 := row_cellT hb3 1 _ rfl
  have z2 := row_cellT hb3 2 _ rfl
  have z3 := row_cellT hb3 3 _ rfl
  have z4 := row_cellT hb3 4 _ rfl
  have z5 := row_cellT hb3 5 _ rfl
  have f0 := row_frozen hb3 0
  have f1 := row_frozen hb3 1
  have f2 := row_frozen hb3 2
  have f3 := row_frozen hb3 3
  have f4 := row_frozen hb3 4
  have f5 := row_frozen hb3 5
  clear hg1 hs1 hb2 hg2 ho1 hg3 hb3
  go_wp2_with fail
  refine bodyPost_ret (v := .agg #[.int .i64 rk, .int .i64 rn, .int .u64 ru, .string rs, .slice ra4 rn4 rc4, .slice ra5 rn5 rc5]) (by simp [results, Try.results9, go_sem, z0, z1, z2, z3, z4, z5]) rfl ?_
  exact ⟨_, rfl, HFIN.out⟩
end Go.Proofs.Ytfbeepkogcmlmaa
