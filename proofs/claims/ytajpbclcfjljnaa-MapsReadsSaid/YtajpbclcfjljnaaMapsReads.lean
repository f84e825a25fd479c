/-
  MapsReads: what was written is unchanged and the encoding reads back: the keys' offset and width, the length, each value, each tag. Conditions: none beyond the statement's own.
-/
import Derived.Test.YtajpbclcfjljnaaPE
import Derived.Deep.QuietTactic
import Derived.BigQuiet
namespace Go.Proofs.Ytajpbclcfjljnaa
open Go Go.ChangeShapes Go.WideShapes Go.ChangeAt Go.RowKit Go.Joins Go.Deep
open Go.Proofs.Ytajpbclcfjljnaa.Ft (V3 vV okV ValsAt inlineB legalB packF codeF typedF allF unpackF unpack_any)
set_option linter.unusedVariables false
set_option linter.unusedSimpArgs false

theorem bytes_form {w : World} {v : Value} {X : List UInt8} (h : BytesAt w v X) (hX : 0 < X.length) : ∃ bl off c, v = .slice (some ⟨bl, off, none⟩) X.length c ∧ X.length ≤ c ∧ bl < w.heap.size := by
  obtain ⟨a, c, rfl, hc, _, hcell⟩ := h
  obtain ⟨bl, off, rfl, h0⟩ := hcell 0 X[0] (List.getElem?_eq_getElem hX)
  exact ⟨bl, off, c, rfl, hc, World.block_lt_of_cell? w _ h0⟩
theorem bytes_cell {w : World} {bl off c : Nat} {X : List UInt8} (h : BytesAt w (.slice (some ⟨bl, off, none⟩) X.length c) X) (k : Nat) (b : UInt8) (hk : X[k]? = some b) : w.cell? ⟨bl, off + k, none⟩ = some (.int .u8 b.toNat) := by
  obtain ⟨a, c', e, _, _, hcell⟩ := h
  cases e
  obtain ⟨bl', off', e, h0⟩ := hcell k b hk
  cases e
  exact h0
set_option maxRecDepth 100000 in
theorem open_pair2 {H : Type} {enc : TypeId × Value → H} {W : World} {base : Nat} {v : Value} {d : DataW H} {p : List MemPlace} (o : Value.okWide Try.prog W .any base 51 v) (k : DataW.Trod enc Try.prog W 0 (fun _ => true) true 51 v d p) :
    ∃ x y : Int, v = .agg #[.int .i64 x, .int .i64 y] ∧ (-9223372036854775808 ≤ x ∧ x ≤ 9223372036854775807) ∧ (-9223372036854775808 ≤ y ∧ y ≤ 9223372036854775807) := by
  simp only [Value.okWide, Try.underlying51] at o
  obtain ⟨cs, rfl, hsz, _⟩ := o
  obtain ⟨l⟩ := cs
  have hl : l.length = 2 := by
    have h2 : Try.prog.cellsOf 51 = 2 := by kernel_rfl
    rw [h2] at hsz; simpa using hsz
  match l, hl with
  | [c0, c1], _ =>
    obtain ⟨fuel, hf⟩ := k
    obtain ⟨xs, m, _, _, _, hlen, hg⟩ := DataW.trod_array Try.underlying51 hf
    match xs, hlen with
    | [y0, y1], _ =>
      have g0 := hg 0 (by omega)
      have g1 := hg 1 (by omega)
      simp [cellsI, Value.cells] at g0 g1
      obtain ⟨a, e0, _, wa⟩ := DataW.trod_int Try.underlying3 g0
      obtain ⟨b, e1, _, wb⟩ := DataW.trod_int Try.underlying3 g1
      simp at e0 e1
      subst e0 e1
      exact ⟨a, b, rfl, bounds_i64 wa, bounds_i64 wb⟩

theorem z0_st {B : Nat} : ∀ (v : Value) (w w' : World), Grew w w' → (∃ g, v = .pointer (some ⟨g, 0, none⟩) ∧ B ≤ g ∧ w.heap[g]? = some Z0) → (∃ g, v = .pointer (some ⟨g, 0, none⟩) ∧ B ≤ g ∧ w'.heap[g]? = some Z0) := fun v w w' hg ⟨g, h1, h2, h3⟩ => ⟨g, h1, h2, hg.heap h3⟩
set_option maxRecDepth 100000 in
set_option maxHeartbeats 8000000 in
theorem mapsReads_any (a a0 a1 : Int) (lv : Value) (l : List (Int × Int)) (W : World) (hp : PairsAt W lv l) (hlen : l.length ≤ 9223372036854775807) :
    Calls Try.prog 6 #[.int .i64 a, .agg #[.int .i64 a0, .int .i64 a1], lv] W fun r w' => r = .returned (.bool true) ∧ Below W.heap.size W w' := by
  have HP := Lib.hid hp
  obtain ⟨la, lc, rfl, hcell⟩ := hp
  clear hcell
  go_enter Try.func6, Try.ntmps6
  go_wp2_with fail
  have hbx := heap_alloc_new W (.cells #[.int .i64 a0, .int .i64 a1] 51)
  refine (works18_any _).mono ?_
  rintro r w1 ⟨rfl, hg1⟩
  replace hbx := hg1.heap hbx
  obtain ⟨bx, hbxe⟩ : ∃ g, W.heap.size = g := ⟨_, rfl⟩
  rw [hbxe] at hbx ⊢
  have HG1 := Lib.hid (((Grew.refl W).alloc _).trans hg1)
  clear hg1
  go_wp2_with fail
  refine (bringL_any a 70000 _ (by omega) (by omega)).mono ?_
  rintro r w' ⟨rfl, e⟩
  subst e
  obtain ⟨m, hm⟩ : ∃ m : Nat, a % 70000 = m := ⟨(a % 70000).toNat, by omega⟩
  rw [hm]
  have hm2 : m < 70000 := by omega
  clear hm
  go_wp2_with fail
  obtain ⟨n, hn⟩ : ∃ n : Nat, 1 + (m : Int) = n := ⟨m + 1, by omega⟩
  rw [hn]
  have hn1 : 1 ≤ n := by omega
  have hn2 : n ≤ 70000 := by omega
  clear hn hm2
  refine (filled18_any 1048576 n _ (by omega)).mono ?_
  rintro r w2 ⟨rfl, hl⟩
  rw [roomOf_big, filled_big n (by omega)] at hl
  have b0 := row_cell (Grew.heap (Grew.of_below hl.below) hbx) 0 _ rfl
  have b1 := row_cell (Grew.heap (Grew.of_below hl.below) hbx) 1 _ rfl
  have HL := Lib.hid hl
  clear hl hbx
  obtain ⟨kn, hkn⟩ : ∃ kn : Nat, a0 % n = kn := ⟨(a0 % n).toNat, by have := Int.emod_nonneg a0 (show (n : Int) ≠ 0 by omega); omega⟩
  have hkn1 : kn < n := by have := Int.emod_lt_of_pos a0 (show (0 : Int) < n by omega); omega
  obtain ⟨k4, hk4⟩ : ∃ k : Nat, a1 % 4 = k := ⟨(a1 % 4).toNat, by omega⟩
  have l4 : k4 < 4 := by omega
  have hsh := isW_pos (shl_isW (k4 : Int) (by omega) (by omega))
  go_wp2_with fail
  refine wp_region_last Grew [[], [0], [], [1, 2], [3], [], [5], [6], [7], [4, 8], [], [9, 10]] [[(40, 2), (41, 3), (42, 4), (43, 5), (44, 6), (45, 7), (46, 8), (47, 9), (9, 10)], [(38, 0), (40, 2), (42, 4), (43, 5), (44, 6), (45, 7), (46, 8), (47, 9), (9, 10)], [(38, 0), (39, 1), (42, 4), (43, 5), (44, 6), (45, 7), (46, 8), (47, 9), (9, 10)], [(38, 0), (39, 1), (40, 2), (43, 5), (44, 6), (45, 7), (46, 8), (47, 9), (9, 10)], [(38, 0), (39, 1), (40, 2), (41, 3), (43, 5), (44, 6), (45, 7), (46, 8), (9, 10)], [(38, 0), (39, 1), (40, 2), (41, 3), (42, 4), (45, 7), (46, 8), (47, 9), (9, 10)], [(38, 0), (39, 1), (40, 2), (41, 3), (42, 4), (43, 5), (46, 8), (47, 9), (9, 10)], [(38, 0), (39, 1), (40, 2), (41, 3), (42, 4), (43, 5), (44, 6), (47, 9), (9, 10)], [(38, 0), (39, 1), (40, 2), (41, 3), (42, 4), (43, 5), (44, 6), (45, 7), (9, 10)], [(38, 0), (39, 1), (40, 2), (41, 3), (42, 4), (43, 5), (44, 6), (45, 7), (46, 8), (9, 10)], [(38, 0), (39, 1), (40, 2), (41, 3), (42, 4), (43, 5), (44, 6), (45, 7), (46, 8), (47, 9)], [(38, 0), (39, 1), (40, 2), (41, 3), (42, 4), (43, 5), (44, 6), (45, 7), (46, 8), (47, 9), (9, 10)]]
    [Is (.pointer (some ⟨bx, 0, none⟩)), Is (.int .i64 a0), Is (.int .i64 n), Is (.int .i64 (kn : Int)), Is (.int .u64 (kn : Int)), Is (.pointer (some ⟨bx, 1, none⟩)), Is (.int .i64 a1), Is (.int .i64 (k4 : Int)), Is (.int .i64 (shlF k4)), Is (.agg #[.int .i64 14, .int .i64 (shlF k4), .int .u64 (kn : Int)]), fun v w => ∃ g, v = .pointer (some ⟨g, 0, none⟩) ∧ w2.heap.size ≤ g ∧ w.heap[g]? = some Z0]
    (by kernel_rfl) Grew.trans Grew.refl (Grew.refl _).drew (by kernel_rfl) ⟨is_st, is_st, is_st, is_st, is_st, is_st, is_st, is_st, is_st, is_st, z0_st, trivial⟩ rfl ⟨?_, ?_, ?_, ?_, ?_, ?_, ?_, ?_, ?_, ?_, ?_, trivial⟩ ?_ rfl
  · intro y w2' hG hD K hK
    simp only [fillL, Act.put, List.setIfInBounds_toArray, List.set_cons_zero, List.set_cons_succ, List.getD_cons_zero, List.getD_cons_succ, Is] at hK ⊢
    refine ite_yes (by rfl) ?_
    go_simp
    exact hK _ _ _ rfl (Grew.refl _) rfl
  · intro y w2' hG hD K hK
    simp only [depsH, List.getD_cons_zero, List.getD_cons_succ, Is, and_true] at hD
    have h0 := hD
    clear hD
    have db0 := hG.cell b0
    have db1 := hG.cell b1
    simp only [fillL, Act.put, List.setIfInBounds_toArray, List.set_cons_zero, List.set_cons_succ, List.getD_cons_zero, List.getD_cons_succ, Is] at hK ⊢
    rw [h0] at hK ⊢
    clear h0
    refine ite_yes (by rfl) ?_
    go_simp
    exact hK _ _ _ rfl (Grew.refl _) rfl
  · intro y w2' hG hD K hK
    simp only [fillL, Act.put, List.setIfInBounds_toArray, List.set_cons_zero, List.set_cons_succ, List.getD_cons_zero, List.getD_cons_succ, Is] at hK ⊢
    refine ite_yes (by rfl) ?_
    go_simp
    exact hK _ _ _ rfl (Grew.refl _) rfl
  · intro y w2' hG hD K hK
    simp only [depsH, List.getD_cons_zero, List.getD_cons_succ, Is, and_true] at hD
    have h1 := hD.1
    have h2 := hD.2
    clear hD
    simp only [fillL, Act.put, List.setIfInBounds_toArray, List.set_cons_zero, List.set_cons_succ, List.getD_cons_zero, List.getD_cons_succ, Is] at hK ⊢
    rw [h1, h2] at hK ⊢
    clear h1 h2
    refine ite_yes (by rfl) ?_
    go_simp
    refine (bringL_any a0 n _ (by omega) (by omega)).mono ?_
    rintro r w3' ⟨rfl, rfl⟩
    rw [hkn]
    exact hK _ _ _ rfl (Grew.refl _) rfl
  · intro y w2' hG hD K hK
    simp only [depsH, List.getD_cons_zero, List.getD_cons_succ, Is, and_true] at hD
    have h3 := hD
    clear hD
    simp only [fillL, Act.put, List.setIfInBounds_toArray, List.set_cons_zero, List.set_cons_succ, List.getD_cons_zero, List.getD_cons_succ, Is] at hK ⊢
    rw [h3] at hK ⊢
    clear h3
    refine ite_yes (by rfl) ?_
    go_simp
    exact hK _ _ _ rfl (Grew.refl _) (congrArg (Value.int _) (by rw [IntKind.wrap_u64]; omega))
  · intro y w2' hG hD K hK
    simp only [fillL, Act.put, List.setIfInBounds_toArray, List.set_cons_zero, List.set_cons_succ, List.getD_cons_zero, List.getD_cons_succ, Is] at hK ⊢
    refine ite_yes (by rfl) ?_
    go_simp
    exact hK _ _ _ rfl (Grew.refl _) rfl
  · intro y w2' hG hD K hK
    simp only [depsH, List.getD_cons_zero, List.getD_cons_succ, Is, and_true] at hD
    have h5 := hD
    clear hD
    have db0 := hG.cell b0
    have db1 := hG.cell b1
    simp only [fillL, Act.put, List.setIfInBounds_toArray, List.set_cons_zero, List.set_cons_succ, List.getD_cons_zero, List.getD_cons_succ, Is] at hK ⊢
    rw [h5] at hK ⊢
    clear h5
    refine ite_yes (by rfl) ?_
    go_simp
    exact hK _ _ _ rfl (Grew.refl _) rfl
  · intro y w2' hG hD K hK
    simp only [depsH, List.getD_cons_zero, List.getD_cons_succ, Is, and_true] at hD
    have h6 := hD
    clear hD
    simp only [fillL, Act.put, List.setIfInBounds_toArray, List.set_cons_zero, List.set_cons_succ, List.getD_cons_zero, List.getD_cons_succ, Is] at hK ⊢
    rw [h6] at hK ⊢
    clear h6
    refine ite_yes (by rfl) ?_
    go_simp
    refine (bringL_any a1 4 _ (by omega) (by omega)).mono ?_
    rintro r w3' ⟨rfl, rfl⟩
    rw [hk4]
    exact hK _ _ _ rfl (Grew.refl _) rfl
  · intro y w2' hG hD K hK
    simp only [depsH, List.getD_cons_zero, List.getD_cons_succ, Is, and_true] at hD
    have h7 := hD
    clear hD
    simp only [fillL, Act.put, List.setIfInBounds_toArray, List.set_cons_zero, List.set_cons_succ, List.getD_cons_zero, List.getD_cons_succ, Is] at hK ⊢
    rw [h7] at hK ⊢
    clear h7
    refine ite_yes (by rfl) ?_
    go_simp
    exact hK _ _ _ rfl (Grew.refl _) (congrArg (Value.int _) (shl_small k4 l4))
  · intro y w2' hG hD K hK
    simp only [depsH, List.getD_cons_zero, List.getD_cons_succ, Is, and_true] at hD
    have h4 := hD.1
    have h8 := hD.2
    clear hD
    simp only [fillL, Act.put, List.setIfInBounds_toArray, List.set_cons_zero, List.set_cons_succ, List.getD_cons_zero, List.getD_cons_succ, Is] at hK ⊢
    rw [h4, h8] at hK ⊢
    clear h4 h8
    refine ite_yes (by rfl) ?_
    go_simp
    refine (keys18_any (kn : Int) (shlF k4) _).mono ?_
    rintro r w3' ⟨rfl, hg⟩
    exact hK _ _ _ rfl hg rfl
  · intro y w2' hG hD K hK
    simp only [fillL, Act.put, List.setIfInBounds_toArray, List.set_cons_zero, List.set_cons_succ, List.getD_cons_zero, List.getD_cons_succ, Is] at hK ⊢
    refine ite_yes (by rfl) ?_
    go_simp
    exact hK _ _ _ rfl ((Grew.refl _).alloc _) ⟨_, rfl, hG.size, heap_alloc_new _ _⟩
  · intro y w2' hG hF K hK
    simp only [factsH, Is, and_true, Nat.reduceAdd] at hF
    have h0 := hF.1
    have h1 := hF.2.1
    have h2 := hF.2.2.1
    have h3 := hF.2.2.2.1
    have h4 := hF.2.2.2.2.1
    have h5 := hF.2.2.2.2.2.1
    have h6 := hF.2.2.2.2.2.2.1
    have h7 := hF.2.2.2.2.2.2.2.1
    have h8 := hF.2.2.2.2.2.2.2.2.1
    have h9 := hF.2.2.2.2.2.2.2.2.2.1
    have h10 := hF.2.2.2.2.2.2.2.2.2.2
    clear hF
    simp only [lastOf]
    simp only [fillL, Act.put, List.setIfInBounds_toArray, List.set_cons_zero, List.set_cons_succ, List.getD_cons_zero, List.getD_cons_succ, Is] at hK ⊢
    rw [h0, h1, h2, h3, h4, h5, h6, h7, h8, h9]
    clear h0 h1 h2 h3 h4 h5 h6 h7 h8 h9
    refine ite_yes (by rfl) ?_
    refine Exists.elim h10 fun g h => ?_
    have hs := h.1
    have hgB := h.2.1
    have hrow := h.2.2
    clear h h10
    rw [hs]
    have f0 := row_frozen hrow 0
    have f1 := row_frozen hrow 1
    have f2 := row_frozen hrow 2
    have c0 := row_cell hrow 0 _ rfl
    have c1 := row_cell hrow 1 _ rfl
    have c2 := row_cell hrow 2 _ rfl
    clear hs
    have hrow2 := heap_store3 hrow (.int .i64 14) (.int .i64 (shlF k4)) (.int .u64 (kn : Int))
    have hgr := ((hG.setCell (p := ⟨g, 0, none⟩) hgB (.int .i64 14)).setCell (p := ⟨g, 1, none⟩) hgB (.int .i64 (shlF k4))).setCell (p := ⟨g, 2, none⟩) hgB (.int .u64 (kn : Int))
    clear hG hrow
    go_simp
    refine hK _ _ ?_
    clear f0 f1 f2 c0 c1 c2 hK
    generalize (((w2'.setCell ⟨g, 0, none⟩ (.int .i64 14)).setCell ⟨g, 1, none⟩ (.int .i64 (shlF k4))).setCell ⟨g, 2, none⟩ (.int .u64 (kn : Int))) = w3 at *
    have HROW := Lib.hid hrow2
    have HL3 := Lib.hid (HL.out.grew hgr)
    clear hrow2 hgr
    go_wp2_with fail
    refine (values18_any n _ l _ (HP.out.grew (HG1.out.trans HL3.out.below)) (by omega) (by omega) hlen).mono ?_
    rintro r w4 ⟨vv, rfl, hown, hg⟩
    have HO := Lib.hid hown
    have hrow := hg.heap HROW.out
    have HG4 := Lib.hid hg
    obtain ⟨va, vc, rfl, hvc⟩ := own_form hown
    have HNR : Hid (∀ v ∈ valsM l n, Near n v) := near_valsM l n (by omega) (by omega)
    have HBK : Hid (∀ x : Int, isW x = true → ∀ v ∈ valsM l n, (inlineB v.1 = true → v.2.1 ≤ x) → BackM x v) := fun x hx => back_valsM l n x (by omega) hx
    have hl3 : (valsM l n).length ≤ 300 := by rw [valsM_length]; omega
    generalize valsM l n = L at *
    have HNIL : Hid (∀ c, Value.slice va L.length vc = .slice none 0 c → c = 0) := fun c e => by
      injection e with e1 e2 e3
      rw [← e3]
      exact hvc e1
    have k0 := row_cell hrow 0 _ rfl
    have k1 := row_cell hrow 1 _ rfl
    have k2 := row_cell hrow 2 _ rfl
    have HRK := Lib.hid hrow
    clear hown hg hvc hrow
    go_wp2_with fail
    obtain ⟨o, hb0, hbel, h3, h4⟩ := HL3.out
    have hb := hb0.grew HG4.out
    refine (put_map (zeros n, 0) (14, shlF k4, (kn : Int)) _ L hb (Nat.le_trans hbel.size HG4.out.size) h3 h4 HO.out.vals HNIL.out (by omega) (okV_vals HNR.out) ⟨by show (0 : Int) ≤ kn; omega, by show (kn : Int) ≤ _; omega⟩ ?_ rfl).mono ?_
    · intro ad n' c' e
      have hlt := own_lt HO.out e
      have hge := own_ge HO.out e
      exact ⟨hlt, fun hq => by have := hb0.lt _ hq; omega⟩
    rintro r w5 ⟨rfl, ht⟩
    have hzl : (zeros n).length = n := length_zeros n
    have hKA : KeyAt n (14, shlF k4, (kn : Int)) := ⟨rfl, shl_isW _ (by omega) (by omega), by show (0 : Int) ≤ kn; omega, by show (kn : Int) ≤ n; omega⟩
    obtain ⟨x, hx⟩ : ∃ x, allF L (14, shlF k4, (kn : Int)) n 3 = x := ⟨_, rfl⟩
    obtain ⟨_, _, hw, _⟩ := allF_map (n := n) (by omega) (by omega) (by omega) HNR.out hKA
    rw [hx] at hw
    have hq := putM_ok (most := 1048576) (k := (14, shlF k4, (kn : Int))) (b := zeros n) (l := L) (x := x) (by omega) (by omega) (by rw [hzl]; exact HNR.out) (by rw [hzl]; exact hKA) (by rw [hzl]; exact hx) (by have := lenM_le hw (zeros n) L; omega)
    rw [hq] at ht ⊢
    have hpad := padN_lt (l := zeros n) hw
    have hxp := isW_pos hw
    obtain ⟨p, hpp⟩ : ∃ p : Int, ((zeros n).length : Int) + padN (zeros n) x + 3 * x = p := ⟨_, rfl⟩
    rw [hpp]
    have hp0 : 0 ≤ p := by rw [← hpp, hzl]; omega
    have hp1 : p ≤ 100000 := by rw [← hpp, hzl]; omega
    have hp2 : 3 * x ≤ p := by rw [← hpp, hzl]; omega
    have HD := heldM (b := zeros n) (k := (14, shlF k4, (kn : Int))) (l := L) (x := x) (p := p) (by omega) (by omega) (by rw [hzl]; exact HNR.out) (by rw [hzl]; exact hKA) (by rw [hzl]; exact hx) hpp
    rw [show putV ((9, x, p), 0) = .tuple #[.agg #[.int .i64 9, .int .i64 x, .int .u64 p], .int .i64 0] from rfl]
    generalize (zeros n ++ (piecesM x (14, shlF k4, (kn : Int)) (zeros n) L).flatten) = X at *
    have HVM : Hid (ValsAt w5 (.slice va L.length vc) L) := by
      obtain ⟨_, _, _, hm⟩ := ht
      refine vals_moved HO.out.vals hm fun ad n' c' e hq => ?_
      have hge := own_ge HO.out e
      have := hb0.lt _ hq
      omega
    have hrk5 : w5.heap[g]? = some (.cells #[.int .i64 14, .int .i64 (shlF k4), .int .u64 (kn : Int)] 30 (0, 0)) := by
      obtain ⟨_, _, _, hm⟩ := ht
      exact hm.heap HRK.out (hb.not_row HRK.out)
    obtain ⟨_, hHeld, hmod, hlo, hhi, hinl, hko⟩ := HD
    rw [hzl] at hlo hhi
    have hXs := hHeld.len
    have hXm : ((X.length : Nat) : Int) ≤ 1048576 := by
      have hm : x * (L.length : Int) ≤ 8 * L.length := Int.mul_le_mul_of_nonneg_right hxp.2 (by omega)
      omega
    have hXn : (n : Int) ≤ X.length := by
      have hm : 0 ≤ x * (L.length : Int) := Int.mul_nonneg (by omega) (by omega)
      omega
    have HL5 := Lib.hid (Live.turn (s' := (X, 0)) hb (Below.trans hbel (Below.mono HG4.out hbel.size)) ht hXm h4)
    clear ht hb hb0 hbel h3 h4 hq hpp hpad hx k0 k1 k2
    have HBACK : Hid (∀ v ∈ L, BackM x v) := fun v hv => HBK.out x hw v hv (hinl v hv)
    clear hinl HBK
    have HXS := Lib.hid hXs
    clear hXs
    have HHELD := Lib.hid hHeld
    have HHEAD : Hid (X.take n = zeros n) := by have := hHeld.head; rw [hzl] at this; exact this
    have HLOHI := Lib.hid (And.intro hmod (And.intro hlo hhi))
    have HOFF : Hid (loadF X (p - 3 * x) x = (p - 3 * x - kn, 0)) := hHeld.off
    have HWIDE : Hid (loadF X (p - 2 * x) x = (shlF k4, 0)) := hHeld.wide
    have HMANY : Hid (loadF X (p - x) x = ((L.length : Int), 0)) := hHeld.many
    clear hHeld hmod hlo hhi hzl
    have HW := Lib.hid hw
    clear HL3 HO HG4 HL HRK HROW HNIL hKA
    go_wp2_with fail
    have hgr := (Grew.refl w5).alloc (.cells #[.int .i64 9, .int .i64 x, .int .u64 p] 30)
    have hr5 := heap_alloc_new w5 (.cells #[.int .i64 9, .int .i64 x, .int .u64 p] 30)
    refine (bytesL (HL5.out.grew hgr)).mono ?_
    rintro r w6 ⟨vb, rfl, hvb, _, hg6⟩
    replace hvb : BytesAt w6 vb X := hvb
    obtain ⟨bl, off, cb, rfl, hcb, hbl⟩ := bytes_form hvb (by omega)
    have hrow := hg6.heap hr5
    have hrk := (hgr.trans hg6).heap hrk5
    have c0 := row_cell hrow 0 _ rfl
    have c1 := row_cell hrow 1 _ rfl
    have c2 := row_cell hrow 2 _ rfl
    have k1 := row_cell hrk 1 _ rfl
    have k2 := row_cell hrk 2 _ rfl
    have HVB := Lib.hid hvb
    have HV6 : Hid (ValsAt w6 (.slice va L.length vc) L) := HVM.out.grew (hgr.trans hg6)
    have HG6 : Hid (Grew W w6) := (HG1.out.trans HL5.out.below).trans (hgr.trans hg6)
    have HBL := Lib.hid hbl
    have hncb : (n : Int) ≤ cb := by omega
    have hXne : ¬ ((X.length : Int) < n) := by omega
    clear hvb hrow hrk hr5 hrk5 hgr hg6 HL5 HVM HG1 HP hbl hw
    go_wp2_with fail
    refine wp_region_tables Grew [[], [0], [1], [2], [2, 3], [2, 4], [5], [6], [6, 7], [6, 8], [6, 9], [10], [11], [11, 12], [11], [11, 13, 14], [11, 15], [16], [17], [17], [17, 18, 19], [17], [17, 21], [17, 20, 22], [17, 23], [17, 24]] [[(65, 2), (66, 3), (67, 4), (68, 5), (69, 6), (70, 7), (71, 8), (72, 9), (73, 10), (74, 11), (75, 12), (76, 13), (77, 14), (78, 15), (79, 16), (80, 17), (81, 18), (82, 19), (83, 20), (84, 21), (85, 22), (86, 23), (87, 24), (88, 25)], [(63, 0), (66, 3), (67, 4), (68, 5), (69, 6), (70, 7), (71, 8), (72, 9), (73, 10), (74, 11), (75, 12), (76, 13), (77, 14), (78, 15), (79, 16), (80, 17), (81, 18), (82, 19), (83, 20), (84, 21), (85, 22), (86, 23), (87, 24), (88, 25)], [(63, 0), (64, 1), (69, 6), (70, 7), (71, 8), (72, 9), (73, 10), (74, 11), (75, 12), (76, 13), (77, 14), (78, 15), (79, 16), (80, 17), (81, 18), (82, 19), (83, 20), (84, 21), (85, 22), (86, 23), (87, 24), (88, 25)], [(63, 0), (64, 1), (65, 2), (68, 5), (69, 6), (70, 7), (71, 8), (72, 9), (73, 10), (74, 11), (75, 12), (76, 13), (77, 14), (78, 15), (79, 16), (80, 17), (81, 18), (82, 19), (83, 20), (84, 21), (85, 22), (86, 23), (87, 24), (88, 25)], [(63, 0), (64, 1), (65, 2), (66, 3), (69, 6), (70, 7), (71, 8), (72, 9), (73, 10), (74, 11), (75, 12), (76, 13), (77, 14), (78, 15), (79, 16), (80, 17), (81, 18), (82, 19), (83, 20), (84, 21), (85, 22), (86, 23), (87, 24), (88, 25)], [(63, 0), (64, 1), (65, 2), (66, 3), (67, 4), (70, 7), (71, 8), (72, 9), (73, 10), (74, 11), (75, 12), (76, 13), (77, 14), (78, 15), (79, 16), (80, 17), (81, 18), (82, 19), (83, 20), (84, 21), (85, 22), (86, 23), (87, 24), (88, 25)], [(63, 0), (64, 1), (65, 2), (66, 3), (67, 4), (68, 5), (74, 11), (75, 12), (76, 13), (77, 14), (78, 15), (79, 16), (80, 17), (81, 18), (82, 19), (83, 20), (84, 21), (85, 22), (86, 23), (87, 24), (88, 25)], [(63, 0), (64, 1), (65, 2), (66, 3), (67, 4), (68, 5), (69, 6), (72, 9), (73, 10), (74, 11), (75, 12), (76, 13), (77, 14), (78, 15), (79, 16), (80, 17), (81, 18), (82, 19), (83, 20), (84, 21), (85, 22), (86, 23), (87, 24), (88, 25)], [(63, 0), (64, 1), (65, 2), (66, 3), (67, 4), (68, 5), (69, 6), (70, 7), (73, 10), (74, 11), (75, 12), (76, 13), (77, 14), (78, 15), (79, 16), (80, 17), (81, 18), (82, 19), (83, 20), (84, 21), (85, 22), (86, 23), (87, 24), (88, 25)], [(63, 0), (64, 1), (65, 2), (66, 3), (67, 4), (68, 5), (69, 6), (70, 7), (71, 8), (74, 11), (75, 12), (76, 13), (77, 14), (78, 15), (79, 16), (80, 17), (81, 18), (82, 19), (83, 20), (84, 21), (85, 22), (86, 23), (87, 24), (88, 25)], [(63, 0), (64, 1), (65, 2), (66, 3), (67, 4), (68, 5), (69, 6), (70, 7), (71, 8), (72, 9), (75, 12), (76, 13), (77, 14), (78, 15), (79, 16), (80, 17), (81, 18), (82, 19), (83, 20), (84, 21), (85, 22), (86, 23), (87, 24), (88, 25)], [(63, 0), (64, 1), (65, 2), (66, 3), (67, 4), (68, 5), (69, 6), (70, 7), (71, 8), (72, 9), (73, 10), (80, 17), (81, 18), (82, 19), (83, 20), (84, 21), (85, 22), (86, 23), (87, 24), (88, 25)], [(63, 0), (64, 1), (65, 2), (66, 3), (67, 4), (68, 5), (69, 6), (70, 7), (71, 8), (72, 9), (73, 10), (74, 11), (77, 14), (78, 15), (79, 16), (80, 17), (81, 18), (82, 19), (83, 20), (84, 21), (85, 22), (86, 23), (87, 24), (88, 25)], [(63, 0), (64, 1), (65, 2), (66, 3), (67, 4), (68, 5), (69, 6), (70, 7), (71, 8), (72, 9), (73, 10), (74, 11), (75, 12), (77, 14), (79, 16), (80, 17), (81, 18), (82, 19), (83, 20), (84, 21), (85, 22), (86, 23), (87, 24), (88, 25)], [(63, 0), (64, 1), (65, 2), (66, 3), (67, 4), (68, 5), (69, 6), (70, 7), (71, 8), (72, 9), (73, 10), (74, 11), (75, 12), (76, 13), (79, 16), (80, 17), (81, 18), (82, 19), (83, 20), (84, 21), (85, 22), (86, 23), (87, 24), (88, 25)], [(63, 0), (64, 1), (65, 2), (66, 3), (67, 4), (68, 5), (69, 6), (70, 7), (71, 8), (72, 9), (73, 10), (74, 11), (75, 12), (76, 13), (77, 14), (80, 17), (81, 18), (82, 19), (83, 20), (84, 21), (85, 22), (86, 23), (87, 24), (88, 25)], [(63, 0), (64, 1), (65, 2), (66, 3), (67, 4), (68, 5), (69, 6), (70, 7), (71, 8), (72, 9), (73, 10), (74, 11), (75, 12), (76, 13), (77, 14), (78, 15), (81, 18), (82, 19), (83, 20), (84, 21), (85, 22), (86, 23), (87, 24), (88, 25)], [(63, 0), (64, 1), (65, 2), (66, 3), (67, 4), (68, 5), (69, 6), (70, 7), (71, 8), (72, 9), (73, 10), (74, 11), (75, 12), (76, 13), (77, 14), (78, 15), (79, 16)], [(63, 0), (64, 1), (65, 2), (66, 3), (67, 4), (68, 5), (69, 6), (70, 7), (71, 8), (72, 9), (73, 10), (74, 11), (75, 12), (76, 13), (77, 14), (78, 15), (79, 16), (80, 17), (82, 19), (84, 21), (85, 22), (86, 23), (87, 24), (88, 25)], [(63, 0), (64, 1), (65, 2), (66, 3), (67, 4), (68, 5), (69, 6), (70, 7), (71, 8), (72, 9), (73, 10), (74, 11), (75, 12), (76, 13), (77, 14), (78, 15), (79, 16), (80, 17), (81, 18), (84, 21), (85, 22), (86, 23), (87, 24), (88, 25)], [(63, 0), (64, 1), (65, 2), (66, 3), (67, 4), (68, 5), (69, 6), (70, 7), (71, 8), (72, 9), (73, 10), (74, 11), (75, 12), (76, 13), (77, 14), (78, 15), (79, 16), (80, 17), (81, 18), (82, 19), (84, 21), (85, 22), (87, 24), (88, 25)], [(63, 0), (64, 1), (65, 2), (66, 3), (67, 4), (68, 5), (69, 6), (70, 7), (71, 8), (72, 9), (73, 10), (74, 11), (75, 12), (76, 13), (77, 14), (78, 15), (79, 16), (80, 17), (81, 18), (82, 19), (83, 20), (86, 23), (87, 24), (88, 25)], [(63, 0), (64, 1), (65, 2), (66, 3), (67, 4), (68, 5), (69, 6), (70, 7), (71, 8), (72, 9), (73, 10), (74, 11), (75, 12), (76, 13), (77, 14), (78, 15), (79, 16), (80, 17), (81, 18), (82, 19), (83, 20), (84, 21), (87, 24), (88, 25)], [(63, 0), (64, 1), (65, 2), (66, 3), (67, 4), (68, 5), (69, 6), (70, 7), (71, 8), (72, 9), (73, 10), (74, 11), (75, 12), (76, 13), (77, 14), (78, 15), (79, 16), (80, 17), (81, 18), (82, 19), (83, 20), (84, 21), (85, 22), (88, 25)], [(63, 0), (64, 1), (65, 2), (66, 3), (67, 4), (68, 5), (69, 6), (70, 7), (71, 8), (72, 9), (73, 10), (74, 11), (75, 12), (76, 13), (77, 14), (78, 15), (79, 16), (80, 17), (81, 18), (82, 19), (83, 20), (84, 21), (85, 22), (86, 23)], [(63, 0), (64, 1), (65, 2), (66, 3), (67, 4), (68, 5), (69, 6), (70, 7), (71, 8), (72, 9), (73, 10), (74, 11), (75, 12), (76, 13), (77, 14), (78, 15), (79, 16), (80, 17), (81, 18), (82, 19), (83, 20), (84, 21), (85, 22), (86, 23), (87, 24)]] [(63, 0), (64, 1), (65, 2), (66, 3), (67, 4), (68, 5), (69, 6), (70, 7), (71, 8), (72, 9), (73, 10), (74, 11), (75, 12), (76, 13), (77, 14), (78, 15), (79, 16), (80, 17), (81, 18), (82, 19), (83, 20), (84, 21), (85, 22), (86, 23), (87, 24), (88, 25)]
      [Is (.int .i64 0), Is (.bool false), Is (.bool false), Is (.int .i64 0), Is (.bool false), Is (.bool false), Is (.bool false), Is (.pointer (some ⟨w5.heap.size, 0, none⟩)), Is (.int .i64 9), Is (.bool false), Is (.bool false), Is (.bool false), Is (.slice (some ⟨bl, off, none⟩) X.length cb), Is (.int .i64 (X.length : Int)), Is (.int .i64 (n : Int)), Is (.bool false), Is (.bool false), Is (.bool false), Is (.slice (some ⟨bl, off, none⟩) X.length cb), Is (.int .i64 (n : Int)), Is (.slice (some ⟨bl, off, none⟩) n cb), Is (.int .i64 (n : Int)), fun v w => BytesAt w v (zeros n), Is (.bool true), Is (.bool false), Is (.bool false)]
      (by kernel_rfl) Grew.trans Grew.refl (Grew.refl _).drew (by kernel_rfl) ⟨is_st, is_st, is_st, is_st, is_st, is_st, is_st, is_st, is_st, is_st, is_st, is_st, is_st, is_st, is_st, is_st, is_st, is_st, is_st, is_st, is_st, is_st, fun _ _ _ hr h => BytesAt.grew h hr, is_st, is_st, is_st, trivial⟩ ⟨?_, ?_, ?_, ?_, ?_, ?_, ?_, ?_, ?_, ?_, ?_, ?_, ?_, ?_, ?_, ?_, ?_, ?_, ?_, ?_, ?_, ?_, ?_, ?_, ?_, ?_, trivial⟩ rfl ?_
    · intro y w2 hG hD K hK
      simp only [fillL, Act.put, List.setIfInBounds_toArray, List.set_cons_zero, List.set_cons_succ, List.getD_cons_zero, List.getD_cons_succ, Is] at hK ⊢
      refine ite_yes (by rfl) ?_
      go_simp
      exact hK _ _ _ rfl (Grew.refl _) rfl
    · intro y w2 hG hD K hK
      simp only [depsH, List.getD_cons_zero, List.getD_cons_succ, Is, and_true] at hD
      have h0 := hD
      clear hD
      simp only [fillL, Act.put, List.setIfInBounds_toArray, List.set_cons_zero, List.set_cons_succ, List.getD_cons_zero, List.getD_cons_succ, Is] at hK ⊢
      rw [h0] at hK ⊢
      clear h0
      refine ite_yes (by rfl) ?_
      go_simp
      exact hK _ _ _ rfl (Grew.refl _) rfl
    · intro y w2 hG hD K hK
      simp only [depsH, List.getD_cons_zero, List.getD_cons_succ, Is, and_true] at hD
      have h1 := hD
      clear hD
      simp only [fillL, Act.put, List.setIfInBounds_toArray, List.set_cons_zero, List.set_cons_succ, List.getD_cons_zero, List.getD_cons_succ, Is] at hK ⊢
      rw [h1] at hK ⊢
      clear h1
      refine ite_yes (by rfl) ?_
      go_simp
      exact hK _ _ _ rfl (Grew.refl _) rfl
    · intro y w2 hG hD K hK
      simp only [depsH, List.getD_cons_zero, List.getD_cons_succ, Is, and_true] at hD
      have h2 := hD
      clear hD
      simp only [fillL, Act.put, List.setIfInBounds_toArray, List.set_cons_zero, List.set_cons_succ, List.getD_cons_zero, List.getD_cons_succ, Is] at hK ⊢
      rw [h2] at hK ⊢
      clear h2
      refine ite_yes (by rfl) ?_
      go_simp
      exact hK _ _ _ rfl (Grew.refl _) rfl
    · intro y w2 hG hD K hK
      simp only [depsH, List.getD_cons_zero, List.getD_cons_succ, Is, and_true] at hD
      have h2 := hD.1
      have h3 := hD.2
      clear hD
      simp only [fillL, Act.put, List.setIfInBounds_toArray, List.set_cons_zero, List.set_cons_succ, List.getD_cons_zero, List.getD_cons_succ, Is] at hK ⊢
      rw [h2, h3] at hK ⊢
      clear h2 h3
      refine ite_yes (by rfl) ?_
      go_simp
      exact hK _ _ _ rfl (Grew.refl _) rfl
    · intro y w2 hG hD K hK
      simp only [depsH, List.getD_cons_zero, List.getD_cons_succ, Is, and_true] at hD
      have h2 := hD.1
      have h4 := hD.2
      clear hD
      simp only [fillL, Act.put, List.setIfInBounds_toArray, List.set_cons_zero, List.set_cons_succ, List.getD_cons_zero, List.getD_cons_succ, Is] at hK ⊢
      rw [h2, h4] at hK ⊢
      clear h2 h4
      refine ite_yes (by rfl) ?_
      go_simp
      exact hK _ _ _ rfl (Grew.refl _) rfl
    · intro y w2 hG hD K hK
      simp only [depsH, List.getD_cons_zero, List.getD_cons_succ, Is, and_true] at hD
      have h5 := hD
      clear hD
      simp only [fillL, Act.put, List.setIfInBounds_toArray, List.set_cons_zero, List.set_cons_succ, List.getD_cons_zero, List.getD_cons_succ, Is] at hK ⊢
      rw [h5] at hK ⊢
      clear h5
      refine ite_yes (by rfl) ?_
      go_simp
      exact hK _ _ _ rfl (Grew.refl _) rfl
    · intro y w2 hG hD K hK
      simp only [depsH, List.getD_cons_zero, List.getD_cons_succ, Is, and_true] at hD
      have h6 := hD
      clear hD
      simp only [fillL, Act.put, List.setIfInBounds_toArray, List.set_cons_zero, List.set_cons_succ, List.getD_cons_zero, List.getD_cons_succ, Is] at hK ⊢
      rw [h6] at hK ⊢
      clear h6
      refine ite_yes (by rfl) ?_
      go_simp
      exact hK _ _ _ rfl (Grew.refl _) rfl
    · intro y w2 hG hD K hK
      simp only [depsH, List.getD_cons_zero, List.getD_cons_succ, Is, and_true] at hD
      have h6 := hD.1
      have h7 := hD.2
      clear hD
      have dc0 := hG.cell c0
      simp only [fillL, Act.put, List.setIfInBounds_toArray, List.set_cons_zero, List.set_cons_succ, List.getD_cons_zero, List.getD_cons_succ, Is] at hK ⊢
      rw [h6, h7] at hK ⊢
      clear h6 h7
      refine ite_yes (by rfl) ?_
      go_simp
      exact hK _ _ _ rfl (Grew.refl _) rfl
    · intro y w2 hG hD K hK
      simp only [depsH, List.getD_cons_zero, List.getD_cons_succ, Is, and_true] at hD
      have h6 := hD.1
      have h8 := hD.2
      clear hD
      simp only [fillL, Act.put, List.setIfInBounds_toArray, List.set_cons_zero, List.set_cons_succ, List.getD_cons_zero, List.getD_cons_succ, Is] at hK ⊢
      rw [h6, h8] at hK ⊢
      clear h6 h8
      refine ite_yes (by rfl) ?_
      go_simp
      exact hK _ _ _ rfl (Grew.refl _) rfl
    · intro y w2 hG hD K hK
      simp only [depsH, List.getD_cons_zero, List.getD_cons_succ, Is, and_true] at hD
      have h6 := hD.1
      have h9 := hD.2
      clear hD
      simp only [fillL, Act.put, List.setIfInBounds_toArray, List.set_cons_zero, List.set_cons_succ, List.getD_cons_zero, List.getD_cons_succ, Is] at hK ⊢
      rw [h6, h9] at hK ⊢
      clear h6 h9
      refine ite_yes (by rfl) ?_
      go_simp
      exact hK _ _ _ rfl (Grew.refl _) rfl
    · intro y w2 hG hD K hK
      simp only [depsH, List.getD_cons_zero, List.getD_cons_succ, Is, and_true] at hD
      have h10 := hD
      clear hD
      simp only [fillL, Act.put, List.setIfInBounds_toArray, List.set_cons_zero, List.set_cons_succ, List.getD_cons_zero, List.getD_cons_succ, Is] at hK ⊢
      rw [h10] at hK ⊢
      clear h10
      refine ite_yes (by rfl) ?_
      go_simp
      exact hK _ _ _ rfl (Grew.refl _) rfl
    · intro y w2 hG hD K hK
      simp only [depsH, List.getD_cons_zero, List.getD_cons_succ, Is, and_true] at hD
      have h11 := hD
      clear hD
      simp only [fillL, Act.put, List.setIfInBounds_toArray, List.set_cons_zero, List.set_cons_succ, List.getD_cons_zero, List.getD_cons_succ, Is] at hK ⊢
      rw [h11] at hK ⊢
      clear h11
      refine ite_yes (by rfl) ?_
      go_simp
      exact hK _ _ _ rfl (Grew.refl _) rfl
    · intro y w2 hG hD K hK
      simp only [depsH, List.getD_cons_zero, List.getD_cons_succ, Is, and_true] at hD
      have h11 := hD.1
      have h12 := hD.2
      clear hD
      simp only [fillL, Act.put, List.setIfInBounds_toArray, List.set_cons_zero, List.set_cons_succ, List.getD_cons_zero, List.getD_cons_succ, Is] at hK ⊢
      rw [h11, h12] at hK ⊢
      clear h11 h12
      refine ite_yes (by rfl) ?_
      go_simp
      exact hK _ _ _ rfl (Grew.refl _) rfl
    · intro y w2 hG hD K hK
      simp only [depsH, List.getD_cons_zero, List.getD_cons_succ, Is, and_true] at hD
      have h11 := hD
      clear hD
      simp only [fillL, Act.put, List.setIfInBounds_toArray, List.set_cons_zero, List.set_cons_succ, List.getD_cons_zero, List.getD_cons_succ, Is] at hK ⊢
      rw [h11] at hK ⊢
      clear h11
      refine ite_yes (by rfl) ?_
      go_simp
      exact hK _ _ _ rfl (Grew.refl _) rfl
    · intro y w2 hG hD K hK
      simp only [depsH, List.getD_cons_zero, List.getD_cons_succ, Is, and_true] at hD
      have h11 := hD.1
      have h13 := hD.2.1
      have h14 := hD.2.2
      clear hD
      simp only [fillL, Act.put, List.setIfInBounds_toArray, List.set_cons_zero, List.set_cons_succ, List.getD_cons_zero, List.getD_cons_succ, Is] at hK ⊢
      rw [h11, h13, h14] at hK ⊢
      clear h11 h13 h14
      refine ite_yes (by rfl) ?_
      go_simp
      exact hK _ _ _ rfl (Grew.refl _) (congrArg Value.bool (decide_eq_false (by omega)))
    · intro y w2 hG hD K hK
      simp only [depsH, List.getD_cons_zero, List.getD_cons_succ, Is, and_true] at hD
      have h11 := hD.1
      have h15 := hD.2
      clear hD
      simp only [fillL, Act.put, List.setIfInBounds_toArray, List.set_cons_zero, List.set_cons_succ, List.getD_cons_zero, List.getD_cons_succ, Is] at hK ⊢
      rw [h11, h15] at hK ⊢
      clear h11 h15
      refine ite_yes (by rfl) ?_
      go_simp
      exact hK _ _ _ rfl (Grew.refl _) rfl
    · intro y w2 hG hD K hK
      simp only [depsH, List.getD_cons_zero, List.getD_cons_succ, Is, and_true] at hD
      have h16 := hD
      clear hD
      simp only [fillL, Act.put, List.setIfInBounds_toArray, List.set_cons_zero, List.set_cons_succ, List.getD_cons_zero, List.getD_cons_succ, Is] at hK ⊢
      rw [h16] at hK ⊢
      clear h16
      refine ite_yes (by rfl) ?_
      go_simp
      exact hK _ _ _ rfl (Grew.refl _) rfl
    · intro y w2 hG hD K hK
      simp only [depsH, List.getD_cons_zero, List.getD_cons_succ, Is, and_true] at hD
      have h17 := hD
      clear hD
      simp only [fillL, Act.put, List.setIfInBounds_toArray, List.set_cons_zero, List.set_cons_succ, List.getD_cons_zero, List.getD_cons_succ, Is] at hK ⊢
      rw [h17] at hK ⊢
      clear h17
      refine ite_yes (by rfl) ?_
      go_simp
      exact hK _ _ _ rfl (Grew.refl _) rfl
    · intro y w2 hG hD K hK
      simp only [depsH, List.getD_cons_zero, List.getD_cons_succ, Is, and_true] at hD
      have h17 := hD
      clear hD
      simp only [fillL, Act.put, List.setIfInBounds_toArray, List.set_cons_zero, List.set_cons_succ, List.getD_cons_zero, List.getD_cons_succ, Is] at hK ⊢
      rw [h17] at hK ⊢
      clear h17
      refine ite_yes (by rfl) ?_
      go_simp
      exact hK _ _ _ rfl (Grew.refl _) rfl
    · intro y w2 hG hD K hK
      simp only [depsH, List.getD_cons_zero, List.getD_cons_succ, Is, and_true] at hD
      have h17 := hD.1
      have h18 := hD.2.1
      have h19 := hD.2.2
      clear hD
      simp only [fillL, Act.put, List.setIfInBounds_toArray, List.set_cons_zero, List.set_cons_succ, List.getD_cons_zero, List.getD_cons_succ, Is] at hK ⊢
      rw [h17, h18, h19] at hK ⊢
      clear h17 h18 h19
      refine ite_yes (by rfl) ?_
      go_simp
      exact hK _ _ _ rfl (Grew.refl _) rfl
    · intro y w2 hG hD K hK
      simp only [depsH, List.getD_cons_zero, List.getD_cons_succ, Is, and_true] at hD
      have h17 := hD
      clear hD
      simp only [fillL, Act.put, List.setIfInBounds_toArray, List.set_cons_zero, List.set_cons_succ, List.getD_cons_zero, List.getD_cons_succ, Is] at hK ⊢
      rw [h17] at hK ⊢
      clear h17
      refine ite_yes (by rfl) ?_
      go_simp
      exact hK _ _ _ rfl (Grew.refl _) rfl
    · intro y w2 hG hD K hK
      simp only [depsH, List.getD_cons_zero, List.getD_cons_succ, Is, and_true] at hD
      have h17 := hD.1
      have h21 := hD.2
      clear hD
      simp only [fillL, Act.put, List.setIfInBounds_toArray, List.set_cons_zero, List.set_cons_succ, List.getD_cons_zero, List.getD_cons_succ, Is] at hK ⊢
      rw [h17, h21] at hK ⊢
      clear h17 h21
      refine ite_yes (by rfl) ?_
      refine wp_make_zeros _ _ _ rfl n rfl rfl (by omega) ?_
      intro v w3 hv hg
      exact hK _ _ _ rfl hg hv
    · intro y w2 hG hD K hK
      simp only [depsH, List.getD_cons_zero, List.getD_cons_succ, Is, and_true] at hD
      have h17 := hD.1
      have h20 := hD.2.1
      have h22 := hD.2.2
      clear hD
      simp only [fillL, Act.put, List.setIfInBounds_toArray, List.set_cons_zero, List.set_cons_succ, List.getD_cons_zero, List.getD_cons_succ, Is] at hK ⊢
      rw [h17, h20] at hK ⊢
      clear h17 h20
      refine ite_yes (by rfl) ?_
      go_simp
      have hcut := bytes_cut (HVB.out.grew hG) 0 n cb (by omega) (by omega)
      rw [Nat.add_zero, List.drop_zero, HHEAD.out] at hcut
      refine (eqBytes_any _ (y 22) _ _ hcut h22).mono ?_
      rintro r w3 ⟨rfl, rfl⟩
      rw [decide_eq_true (rfl : zeros n = zeros n)]
      exact hK _ _ _ rfl (Grew.refl _) rfl
    · intro y w2 hG hD K hK
      simp only [depsH, List.getD_cons_zero, List.getD_cons_succ, Is, and_true] at hD
      have h17 := hD.1
      have h23 := hD.2
      clear hD
      simp only [fillL, Act.put, List.setIfInBounds_toArray, List.set_cons_zero, List.set_cons_succ, List.getD_cons_zero, List.getD_cons_succ, Is] at hK ⊢
      rw [h17, h23] at hK ⊢
      clear h17 h23
      refine ite_yes (by rfl) ?_
      go_simp
      exact hK _ _ _ rfl (Grew.refl _) rfl
    · intro y w2 hG hD K hK
      simp only [depsH, List.getD_cons_zero, List.getD_cons_succ, Is, and_true] at hD
      have h17 := hD.1
      have h24 := hD.2
      clear hD
      simp only [fillL, Act.put, List.setIfInBounds_toArray, List.set_cons_zero, List.set_cons_succ, List.getD_cons_zero, List.getD_cons_succ, Is] at hK ⊢
      rw [h17, h24] at hK ⊢
      clear h17 h24
      refine ite_yes (by rfl) ?_
      go_simp
      exact hK _ _ _ rfl (Grew.refl _) rfl
    · intro y w2 hG hF
      simp only [factsH, Is, and_true, Nat.reduceAdd] at hF
      have h0 := hF.1
      have h1 := hF.2.1
      have h2 := hF.2.2.1
      have h3 := hF.2.2.2.1
      have h4 := hF.2.2.2.2.1
      have h5 := hF.2.2.2.2.2.1
      have h6 := hF.2.2.2.2.2.2.1
      have h7 := hF.2.2.2.2.2.2.2.1
      have h8 := hF.2.2.2.2.2.2.2.2.1
      have h9 := hF.2.2.2.2.2.2.2.2.2.1
      have h10 := hF.2.2.2.2.2.2.2.2.2.2.1
      have h11 := hF.2.2.2.2.2.2.2.2.2.2.2.1
      have h12 := hF.2.2.2.2.2.2.2.2.2.2.2.2.1
      have h13 := hF.2.2.2.2.2.2.2.2.2.2.2.2.2.1
      have h14 := hF.2.2.2.2.2.2.2.2.2.2.2.2.2.2.1
      have h15 := hF.2.2.2.2.2.2.2.2.2.2.2.2.2.2.2.1
      have h16 := hF.2.2.2.2.2.2.2.2.2.2.2.2.2.2.2.2.1
      have h17 := hF.2.2.2.2.2.2.2.2.2.2.2.2.2.2.2.2.2.1
      have h18 := hF.2.2.2.2.2.2.2.2.2.2.2.2.2.2.2.2.2.2.1
      have h19 := hF.2.2.2.2.2.2.2.2.2.2.2.2.2.2.2.2.2.2.2.1
      have h20 := hF.2.2.2.2.2.2.2.2.2.2.2.2.2.2.2.2.2.2.2.2.1
      have h21 := hF.2.2.2.2.2.2.2.2.2.2.2.2.2.2.2.2.2.2.2.2.2.1
      have h22 := hF.2.2.2.2.2.2.2.2.2.2.2.2.2.2.2.2.2.2.2.2.2.2.1
      have h23 := hF.2.2.2.2.2.2.2.2.2.2.2.2.2.2.2.2.2.2.2.2.2.2.2.1
      have h24 := hF.2.2.2.2.2.2.2.2.2.2.2.2.2.2.2.2.2.2.2.2.2.2.2.2.1
      have h25 := hF.2.2.2.2.2.2.2.2.2.2.2.2.2.2.2.2.2.2.2.2.2.2.2.2.2
      clear hF
      simp only [fillL, Act.put, List.setIfInBounds_toArray, List.set_cons_zero, List.set_cons_succ, List.getD_cons_zero, List.getD_cons_succ, Is]
      rw [h0, h1, h2, h3, h4, h5, h6, h7, h8, h9, h10, h11, h12, h13, h14, h15, h16, h17, h18, h19, h20, h21, h23, h24, h25]
      clear h0 h1 h2 h3 h4 h5 h6 h7 h8 h9 h10 h11 h12 h13 h14 h15 h16 h17 h18 h19 h20 h21 h23 h24 h25
      have HG7 := Lib.hid (HG6.out.trans hG)
      have HVB7 := Lib.hid (HVB.out.grew hG)
      have HV7 := Lib.hid (HV6.out.grew hG)
      replace c1 := hG.cell c1
      replace c2 := hG.cell c2
      replace k1 := hG.cell k1
      replace k2 := hG.cell k2
      have hbl7 := Nat.lt_of_lt_of_le HBL.out hG.size
      clear hG c0 HVB HV6 HG6 HBL HHEAD hXne
      go_wp2_with fail
      go_quiet (fail)
      obtain ⟨hmod, hlo, hhi⟩ := HLOHI.out
      obtain ⟨hx1, hx8⟩ := hxp
      obtain ⟨hs1, hs8⟩ := hsh
      have hx0 : ¬ x = 0 := by omega
      have hmod2 : p.tmod x = 0 := by
        rw [Int.tmod_eq_emod_of_nonneg (by omega)]
        have d1 := Int.dvd_of_emod_eq_zero hmod
        have d2 := Int.dvd_add d1 (Int.dvd_mul_left 3 x)
        rw [Int.sub_add_cancel] at d2
        exact Int.emod_eq_zero_of_dvd d2
      have hLx : (L.length : Int) * (x + 1) = x * L.length + L.length := by rw [Int.mul_add, Int.mul_comm]; omega
      have hLm0 : 0 ≤ (L.length : Int) * (x + 1) := Int.mul_nonneg (by omega) (by omega)
      have hLm1 : (L.length : Int) * (x + 1) ≤ 2700 := by have := Int.mul_le_mul (show (L.length : Int) ≤ 300 by omega) (show x + 1 ≤ 9 by omega) (by omega) (by omega); omega
      have hLy0 : 0 ≤ (L.length : Int) * x := Int.mul_nonneg (by omega) (by omega)
      have hLy1 : (L.length : Int) * x ≤ 2400 := by have := Int.mul_le_mul (show (L.length : Int) ≤ 300 by omega) (show x ≤ 8 by omega) (by omega) (by omega); omega
      have hLc : (L.length : Int) * x = x * L.length := Int.mul_comm _ _
      have HLC := Lib.hid hLc
      generalize shlF k4 = sk at *
      go_wp2_with fail
      refine (load_any _ X (BytesAt.grew HVB7.out ((Grew.refl _).drewN _)) (by omega) (p - 3 * x) x (by omega) (by intro ad n' c' e; cases e; exact hbl7)).mono ?_
      rw [HOFF.out]
      rintro r wa ⟨rfl, hg8⟩
      have HVBa := Lib.hid (BytesAt.grew HVB7.out (((Grew.refl _).drewN _).trans hg8))
      have HVa := Lib.hid (HV7.out.grew (((Grew.refl _).drewN _).trans hg8))
      have HGa : Hid (Grew W wa) := (HG7.out.drewN _).trans hg8
      have hbla : bl < wa.heap.size := Nat.lt_of_lt_of_le hbl7 hg8.size
      have ka1 := hg8.cell k1
      have ka2 := hg8.cell k2
      clear hg8 k1 k2 hbl7 HVB7 HV7 HG7 c1 c2
      go_wp2_with fail
      refine (load_any _ X HVBa.out (by omega) (p - 2 * x) x (by omega) (by intro ad n' c' e; cases e; exact hbla)).mono ?_
      rw [HWIDE.out]
      rintro r wb ⟨rfl, hg8⟩
      have HVBb := Lib.hid (BytesAt.grew HVBa.out hg8)
      have HVb := Lib.hid (HVa.out.grew hg8)
      have HGb : Hid (Grew W wb) := HGa.out.trans hg8
      have hblb : bl < wb.heap.size := Nat.lt_of_lt_of_le hbla hg8.size
      have kb1 := hg8.cell ka1
      have kb2 := hg8.cell ka2
      clear hg8 ka1 ka2 hbla HVBa HVa HGa
      go_wp2_with fail
      refine (load_any _ X HVBb.out (by omega) (p - x) x (by omega) (by intro ad n' c' e; cases e; exact hblb)).mono ?_
      rw [HMANY.out]
      rintro r w6' ⟨rfl, hg6⟩
      have HVB7 := Lib.hid (BytesAt.grew HVBb.out hg6)
      have HV7 := Lib.hid (HVb.out.grew hg6)
      have HG7 : Hid (Grew W w6') := HGb.out.trans hg6
      have hbl7 : bl < w6'.heap.size := Nat.lt_of_lt_of_le hblb hg6.size
      have kc1 := hg6.cell kb1
      have kc2 := hg6.cell kb2
      clear hg6 kb1 kb2 hblb HVBb HVb HGb
      have hne : ((X.length : Int) != p + (L.length : Int) * (x + 1)) = false := by have := HXS.out; simp; omega
      have hsub : IntKind.u64.wrap (p - 3 * x - (p - 3 * x - (kn : Int))) = kn := by rw [IntKind.wrap_u64]; omega
      clear hLx hLc
      go_wp2_with fail
      clear hmod hmod2 hne hlo hhi hLm0 hLm1 hsub kc1 kc2
      go_loopw [23] (fun i wr => ∃ k : Nat, k ≤ L.length ∧ i = .int .i64 k ∧ Hid (Grew w6' wr)) (fun i _ => L.length - (intOf i).toNat)
      case atStart => exact ⟨0, Nat.zero_le _, rfl, Grew.refl _⟩
      case round =>
        obtain ⟨k, hk, rfl, HK⟩ := hrel
        by_cases hlt : k < L.length
        · have hkx0 : 0 ≤ (k : Int) * x := Int.mul_nonneg (by omega) (by omega)
          have hkx1 : (k : Int) * x ≤ 2400 := by have := Int.mul_le_mul (show (k : Int) ≤ 300 by omega) (show x ≤ 8 by omega) (by omega) (by omega); omega
          obtain ⟨v, hv⟩ : ∃ v, L[k]? = some v := ⟨_, List.getElem?_eq_getElem hlt⟩
          have hnr := HNR.out v (List.mem_of_getElem? hv)
          have hback := HBACK.out v (List.mem_of_getElem? hv)
          have helem := HHELD.out.elem k v hv
          have htag := HHELD.out.tag k v hv
          have hun := unpack_tag (x := x) HW.out hnr.1
          have hle := HXS.out
          obtain ⟨va', vc', ev, hc⟩ := HV7.out
          cases ev
          obtain ⟨vbl, voff, rfl, d0, d1, d2⟩ := hc k v hv
          have hbytes := bytes_cell HVB7.out _ _ htag
          generalize tagB x v = tb at *
          obtain ⟨ty, wd, vn⟩ := v
          simp only at d0 d1 d2 hun
          have HUN := Lib.hid hun
          have HNV := Lib.hid hnr
          have HBV := Lib.hid hback
          obtain ⟨u, hu⟩ : ∃ u : Int, encN x (p + k * x) (ty, wd, vn) = u := ⟨_, rfl⟩
          rw [hu] at helem
          have HU := Lib.hid hu
          have hload : loadF X (p + (k : Int) * x) x = (u, 0) := by simpa using helem
          have HLD := Lib.hid hload
          have hloadI := loadInt_of hload
          have HLI := Lib.hid hloadI
          have hidx1 : p + L.length * x + k < X.length := by have := HLC.out; omega
          have HBT := Lib.hid (HK.out.cell hbytes)
          clear hc hnr hv hback htag hun hle helem hu hload hloadI hbytes
          replace d0 := HK.out.cell d0
          replace d1 := HK.out.cell d1
          replace d2 := HK.out.cell d2
          go_wp2_with fail
          refine (load_any _ X (BytesAt.grew HVB7.out HK.out) (by omega) (p + (k : Int) * x) x (by omega) (by intro ad n' c' e; cases e; exact Nat.lt_of_lt_of_le hbl7 HK.out.size)).mono ?_
          rw [HLD.out]
          rintro r w8 ⟨rfl, hg8⟩
          have HK8 := Lib.hid (HK.out.trans hg8)
          replace d0 := hg8.cell d0
          replace d1 := hg8.cell d1
          replace d2 := hg8.cell d2
          replace HBT := Lib.hid (hg8.cell HBT.out)
          clear hg8
          go_wp2_with fail
          refine (loadInt_any _ X (BytesAt.grew HVB7.out HK8.out) (by omega) (p + (k : Int) * x) x (by omega) (by intro ad n' c' e; cases e; exact Nat.lt_of_lt_of_le hbl7 HK8.out.size)).mono ?_
          rw [HLI.out]
          rintro r w9 ⟨rfl, hg9⟩
          have HK9 := Lib.hid (HK8.out.trans hg9)
          replace d0 := hg9.cell d0
          replace d1 := hg9.cell d1
          replace d2 := hg9.cell d2
          have hbt := hg9.cell HBT.out
          rw [show (p + (L.length : Int) * x).toNat + k = (p + (L.length : Int) * x + (k : Int)).toNat by omega] at hbt
          clear hg9 HBT
          go_wp2_with fail
          refine (unpack_any tb.toNat _ tb.toNat_lt).mono ?_
          rw [HUN.out]
          rintro r wa ⟨rfl, hga⟩
          have HKA := Lib.hid (HK9.out.trans hga)
          replace d0 := hga.cell d0
          replace d1 := hga.cell d1
          replace d2 := hga.cell d2
          clear hga hbt hidx1
          obtain ⟨vn0, vn1⟩ := HNV.out.2.1
          simp only at vn0 vn1
          rcases HBV.out with ⟨e1, hS⟩ | ⟨hi, ne1⟩
          · simp only at e1 hS
            subst e1
            have hu : u = lowF vn x := by rw [← HU.out]; exact if_pos inl_1
            rw [← hu] at hS
            rw [if_pos inl_1]
            clear HU HUN HNV HBV hu
            go_wp2
            go_roundw
            case rel => exact ⟨k + 1, by omega, by go_num, HKA.out⟩
            case measure => simp [intOf]; omega
          · simp only at hi ne1
            have hn : ¬ inlineB ty = true := by rw [hi]; decide
            have hu : u = p + k * x - vn := by rw [← HU.out]; exact if_neg hn
            have hC : IntKind.u64.wrap (p + (k : Int) * x - u) = vn := by rw [IntKind.wrap_u64]; omega
            rw [if_neg hn]
            clear HU HUN HNV HBV hn hu
            go_wp2
            go_roundw
            case rel => exact ⟨k + 1, by omega, by go_num, HKA.out⟩
            case measure => simp [intOf]; omega
        · have ek : k = L.length := by omega
          subst ek
          have HGF : Hid (Grew W wr) := HG7.out.trans HK.out
          clear HK
          go_wp2
          go_ret
          exact ⟨rfl, HGF.out⟩

set_option maxRecDepth 100000 in
theorem mapsReads_row {H : Type} (enc : TypeId × Value → H) (W : World) (base : Nat) (v0 : Value) (d0 : DataW H) (p0 : List MemPlace) (o0 : Value.okWide Try.prog W .any base 3 v0) (k0 : DataW.Trod enc Try.prog W 0 (fun _ => true) true 3 v0 d0 p0) (v1 : Value) (d1 : DataW H) (p1 : List MemPlace) (o1 : Value.okWide Try.prog W .any base 51 v1) (k1 : DataW.Trod enc Try.prog W 0 (fun _ => true) true 51 v1 d1 p1) (v2 : Value) (d2 : DataW H) (p2 : List MemPlace) (o2 : Value.okWide Try.prog W .any base 22 v2) (k2 : DataW.Trod enc Try.prog W 0 (fun _ => true) true 22 v2 d2 p2) :
    Calls Try.prog 6 #[v0, v1, v2] W fun e w' => e = .returned (.bool true) ∧ Below W.heap.size W w' := by
  obtain ⟨m, rfl, _, _, _⟩ := open_int Try.underlying3 o0 k0
  obtain ⟨x, y, rfl, _, _⟩ := open_pair2 o1 k1
  obtain ⟨l, hl, hlen, _⟩ := open_Prs o2 k2
  exact mapsReads_any m x y v2 l W hl.pairs hlen

theorem mapsReads_own : ownKnob Try.prog.godebug = none := by kernel_rfl
theorem mapsReads_laidOut : laidOutB Try.prog = true := by kernel_rfl

set_option maxRecDepth 100000 in
theorem mapsReads_lifted (os : Os) (started : os.Started) (H : Type) (enc : TypeId × Value → H) :
    ReturnsInHanded {} Try.checked os 6 .any (Rows.mapsReadsSpec.pre6 enc Try.prog Try.f6 Rows.mapsReadsRow.domain false) (Rows.mapsReadsSpec.post enc Try.prog Try.f6 false true false false) := by
  refine returnsInHanded_of_change (C := Try.checked) mapsReads_own started (by kernel_rfl) Try.func6
    (ChangeSpec.witness6 (enc := enc) (C := Try.checked) false ⟨#[], #[.int .i64 0, .agg #[.int .i64 0, .int .i64 0], .slice none 0 0], []⟩ 8 (by kernel_rfl) (by kernel_rfl) (by kernel_rfl) (by kernel_rfl)) ?_
  intro W base args ds gs before hval0 hW hcnd _
  have hval : ∀ (j : Nat) t v, Try.f6.params[j]? = some t → args[j]? = some v → Value.okWide Try.prog W .any base t v := hval0
  have hW' := hW
  obtain ⟨p, q, hA0, hV, rfl, hfz, hnd⟩ := hW
  have hA : DataW.TrodAll enc Try.prog W 0 (fun _ => true) true Try.f6.params.toList args.toList ds p := hA0
  rw [Try.params6] at hA hval
  obtain ⟨v0, vs0, d0, ds0, p0, q0, hargs, rfl, rfl, h0, r0⟩ := trodAll_cons hA
  obtain ⟨v1, vs1, d1, ds1, p1, q1, rfl, rfl, rfl, h1, r1⟩ := trodAll_cons r0
  obtain ⟨v2, vs2, d2, ds2, p2, q2, rfl, rfl, rfl, h2, r2⟩ := trodAll_cons r1
  obtain ⟨rfl, rfl, rfl⟩ := trodAll_nil r2
  obtain rfl : args = #[v0, v1, v2] := by cases args; simp_all
  obtain ⟨rfl, rfl⟩ := trodVars_none hV
  have lt0 : ∀ x ∈ p0, x.block < W.heap.size := by obtain ⟨m, hm⟩ := h0; exact DataW.trod_lt m _ _ _ hm
  have lt1 : ∀ x ∈ p1, x.block < W.heap.size := by obtain ⟨m, hm⟩ := h1; exact DataW.trod_lt m _ _ _ hm
  have lt2 : ∀ x ∈ p2, x.block < W.heap.size := by obtain ⟨m, hm⟩ := h2; exact DataW.trod_lt m _ _ _ hm
  have hw := mapsReads_row enc W base v0 d0 p0 (hval 0 3 v0 rfl rfl) h0 v1 d1 p1 (hval 1 51 v1 rfl rfl) h1 v2 d2 p2 (hval 2 22 v2 rfl rfl) h2
  clear hA0 hval0
  refine hw.mono fun e W' ⟨he, bel⟩ => ?_
  subst he
  exact ⟨_, rfl, _, _, _, [], _, [], hW', trodAll_mk1 (shut_bool Try.underlying4 _), (trodAll_cons_mk (Below.trod mapsReads_laidOut (by kernel_rfl) (of_decide_eq_true (by kernel_rfl)) h0 bel lt0) (trodAll_cons_mk (Below.trod mapsReads_laidOut (by kernel_rfl) (of_decide_eq_true (by kernel_rfl)) h1 bel lt1) (trodAll_cons_mk (Below.trod mapsReads_laidOut (by kernel_rfl) (of_decide_eq_true (by kernel_rfl)) h2 bel lt2) trodAll_mk0))), rfl, Below.frame bel _, fun h => by cases h⟩

/-- The statement. -/
theorem mapsReads_holds : Rows.MapsReadsSaid :=
  OpenClaim.holds_of_wide 6 Try.f6 rfl rfl rfl rfl rfl rfl rfl ⟨rfl, rfl, rfl, rfl, rfl⟩ rfl rfl rfl rfl rfl (by kernel_rfl) Try.func6 (by kernel_rfl)
    (of_decide_eq_true (by kernel_rfl)) (by unfold Func.isWrapper; first | (rw [if_pos (by decide +kernel)]; kernel_rfl) | (rw [if_neg (by decide +kernel)]; exact ⟨rfl, rfl⟩))
    (fun os started H enc _ => mapsReads_lifted os started H enc)
end Go.Proofs.Ytajpbclcfjljnaa
