/-
  Texts of the proof, part 3 of 4.
-/
import Derived.Test.YtaoflhddcbmacaaPB
import Derived.Laws.EntriesVeiled

/-
  Package vec: Put.
-/
namespace Go.Proofs.Ytaoflhddcbmacaa
open Go Go.ChangeShapes Go.WideShapes Go.ChangeAt Go.RowKit Go.Joins
open Go.Proofs.Ytaoflhddcbmacaa.Ft (V3 vV okV ValsAt inlineB legalB packF codeF typedF allF)
set_option linter.unusedVariables false
set_option linter.unusedSimpArgs false

theorem row_cell {w : World} {p : Nat} {cs : Array Value} {t : TypeId} (h : w.heap[p]? = some (.cells cs t (0, 0))) (k : Nat) (v : Value) (hv : cs[k]? = some v) : w.cell? ⟨p, k, none⟩ = some v := by
  simp [World.cell?, h, hv]
def eachL (T : V3 → Int) (e : Int) (l : List V3) : Int := l.foldl (fun e v => if e = 0 then T v else e) e
theorem eachL_stuck (T : V3 → Int) {e : Int} (h : e ≠ 0) : ∀ l : List V3, eachL T e l = e
  | [] => rfl
  | v :: r => by
    show eachL T (if e = 0 then T v else e) r = e
    rw [if_neg h]
    exact eachL_stuck T h r
theorem eachL_drop (T : V3 → Int) (e : Int) (l : List V3) (k : Nat) (h : eachL T e (l.take k) ≠ 0) : eachL T e l = eachL T e (l.take k) := by
  have := eachL_stuck T h (l.drop k)
  unfold eachL at *
  rw [← List.foldl_append, List.take_append_drop] at this
  exact this
theorem eachL_snoc (T : V3 → Int) (e : Int) (l : List V3) (k : Nat) (h : k < l.length) (h0 : eachL T e (l.take k) = 0) : eachL T e (l.take (k + 1)) = T l[k] := by
  unfold eachL at *
  rw [List.take_succ_eq_append_getElem h, List.foldl_append]
  simp only [List.foldl_cons, List.foldl_nil]
  rw [if_pos h0]
/-- What Put does once the form is known. -/
def putF (most : Int) (T : V3 → Int) (len tagged : Bool) (kind e0 : Int) (l : List V3) (s : St) : (V3 × Int) × St :=
  if eachL T e0 l ≠ 0 then (((0, 0, 0), eachL T e0 l), s) else
  let x := allF l (0, 0, 0) s.1.length (if len then 1 else 0)
  if x = 0 then (((0, 0, 0), 211), s) else
  let s1 := alignS most x s
  let s2 := if len then numS most x l.length s1 else s1
  let s3 := elemsS most x l s2
  let s4 := if tagged then tagsS most x l s3 else s3
  if s4.2 ≠ 0 then (((0, 0, 0), s4.2), s4) else (((kind, x, (s2.1.length : Int)), 0), s4)
theorem allF_isW {l : List V3} {k : V3} {a b : Int} (h : allF l k a b ≠ 0) : isW (allF l k a b) = true := by
  revert h
  unfold allF Ft.leastOf
  repeat' split
  all_goals simp [isW]
/-- The middle of Put: the buffer's state, the values, the result's row, the form's cells. -/
def Mid (B : Nat) (w : World) (p : Nat) (o : Option Nat) (most : Int) (lv : Value) (l : List V3) (nR nS : Nat) (kind : Int) (len : Bool) (tg : Value) (s : St) (o' : Option Nat) (wn : World) : Prop :=
  BufAt B wn p o' s.1 most s.2 ∧ Next w o o' ∧ Moved (Own2 p o) w wn ∧ (∀ b, (b = nR ∨ b = nS ∨ ∃ ad n c, lv = .slice (some ad) n c ∧ ad.block = b) → b < wn.heap.size ∧ ¬ Own2 p o' b) ∧ ValsAt wn lv l ∧
    wn.heap[nR]? = some (.cells #[.int .i64 0, .int .i64 0, .int .u64 0] 28) ∧ wn.cell? ⟨nS, 0, none⟩ = some (.int .i64 kind) ∧ wn.cell? ⟨nS, 1, none⟩ = some (.bool len) ∧ wn.cell? ⟨nS, 3, none⟩ = some tg
theorem vals_moved {w w' : World} {S : Nat → Prop} {lv : Value} {l : List V3} (h : ValsAt w lv l) (hm : Moved S w w') (hap : ∀ ad n c, lv = .slice (some ad) n c → ¬ S ad.block) : ValsAt w' lv l := by
  obtain ⟨a, c, rfl, hc⟩ := h
  refine ⟨a, c, rfl, fun i x hx => ?_⟩
  obtain ⟨b, off, rfl, h0, h1, h2⟩ := hc i x hx
  have hn : ¬ S b := hap ⟨b, off, none⟩ _ _ rfl
  exact ⟨b, off, rfl, hm.cell h0 hn, hm.cell h1 hn, hm.cell h2 hn⟩
theorem Mid.step {B : Nat} {w : World} {p : Nat} {o : Option Nat} {most : Int} {lv : Value} {l : List V3} {nR nS : Nat} {kind : Int} {len : Bool} {tg : Value} {s s' : St} {o' : Option Nat} {wn wm : World} (h : Mid B w p o most lv l nR nS kind len tg s o' wn) (ht : TurnB B wn wm p o' most s') :
    ∃ o2, Mid B w p o most lv l nR nS kind len tg s' o2 wm := by
  obtain ⟨hb, hn, hm, hk, hv, hr, g0, g1, g3⟩ := h
  obtain ⟨o2, b2, n2, m2⟩ := ht
  have kR := (hk nR (.inl rfl)).2
  have kS := (hk nS (.inr (.inl rfl))).2
  refine ⟨o2, b2, hn.trans n2 hm.size, hm.own hn m2, fun b hb => ?_, vals_moved hv m2 fun ad n c e => (hk _ (.inr (.inr ⟨ad, n, c, e, rfl⟩))).2, m2.heap hr kR, m2.cell g0 kS, m2.cell g1 kS, m2.cell g3 kS⟩
  have h1 := hk b hb
  refine ⟨Nat.lt_of_lt_of_le h1.1 m2.size, ?_⟩
  rintro (e | e)
  · exact h1.2 (.inl e)
  · rcases n2 b e.symm with e2 | e2
    · exact h1.2 (.inr e2.symm)
    · omega
theorem Mid.turnSet {B : Nat} {w : World} {p : Nat} {o : Option Nat} {most : Int} {lv : Value} {l : List V3} {nR nS : Nat} {kind : Int} {len : Bool} {tg : Value} {s : St} {o' : Option Nat} {wn : World} (h : Mid B w p o most lv l nR nS kind len tg s o' wn) (hge : w.heap.size ≤ nR) (v0 v1 v2 : Value) :
    TurnB B w (((wn.setCell ⟨nR, 0, none⟩ v0).setCell ⟨nR, 1, none⟩ v1).setCell ⟨nR, 2, none⟩ v2) p o most s := by
  obtain ⟨hb, hn, hm, hk, _⟩ := h
  have kR := (hk nR (.inl rfl)).2
  have m : Moved (fun k => k = nR) wn (((wn.setCell ⟨nR, 0, none⟩ v0).setCell ⟨nR, 1, none⟩ v1).setCell ⟨nR, 2, none⟩ v2) :=
    Moved.setCell (S := fun k => k = nR) (p := ⟨nR, 2, none⟩) (Moved.setCell (S := fun k => k = nR) (p := ⟨nR, 1, none⟩) (Moved.setCell (S := fun k => k = nR) (p := ⟨nR, 0, none⟩) (Moved.refl _ wn) (fun _ => rfl) v0) (fun _ => rfl) v1) (fun _ => rfl) v2
  refine ⟨o', hb.kept m (fun e => kR (.inl e.symm)) (fun k e e2 => kR (.inr (by rw [e, e2]))), hn, hm.trans m fun j hj e => by omega⟩
theorem Mid.turn {B : Nat} {w : World} {p : Nat} {o : Option Nat} {most : Int} {lv : Value} {l : List V3} {nR nS : Nat} {kind : Int} {len : Bool} {tg : Value} {s : St} {o' : Option Nat} {wn : World} (h : Mid B w p o most lv l nR nS kind len tg s o' wn) : TurnB B w wn p o most s := ⟨o', h.1, h.2.1, h.2.2.1⟩
theorem ok0 : okV (0, 0, 0) := by unfold okV; simp
def putV (q : V3 × Int) : Value := .tuple #[vV q.1, .int .i64 q.2]
set_option maxRecDepth 100000 in
set_option maxHeartbeats 2000000 in
theorem put_un {B : Nat} {w : World} {p : Nat} {o : Option Nat} {most : Int} (s : St) (lv : Value) (l : List V3) (h : BufAt B w p o s.1 most s.2) (hB : B ≤ w.heap.size) (hl : (s.1.length : Int) ≤ most) (hm1 : most ≤ 1048576)
    (hv : ValsAt w lv l) (hlen : l.length ≤ 1048576) (hok : ∀ v ∈ l, okV v) (hap : ∀ ad n c, lv = .slice (some ad) n c → ad.block < w.heap.size ∧ ¬ Own2 p o ad.block) (hs : s.2 = 0) :
    Calls Try.prog 10 #[bptr p, .int .i64 (-1), .int .i64 0, lv] w fun r w' => r = .returned (putV (putF most legalE true true 10 0 l s).1) ∧ TurnB B w w' p o most (putF most legalE true true 10 0 l s).2 := by
  have HB0 := Lib.hid h
  have HA := Lib.hid hap
  have HOK := Lib.hid hok
  have HV := Lib.hid hv
  obtain ⟨a, c, rfl, hcell⟩ := hv
  have HC := Lib.hid hcell
  have HP := Lib.hid (rfl : putF most legalE true true 10 0 l s = putF most legalE true true 10 0 l s)
  generalize hP : putF most legalE true true 10 0 l s = P
  have HPP := Lib.hid hP
  clear h hap hok hcell HP hP
  go_enter Try.func10, Try.ntmps10
  go_wp2_with fail
  refine (err_any (HB0.out.grew ((Grew.refl w).alloc _))).mono ?_
  rw [hs]
  rintro r w1 ⟨rfl, rfl⟩
  go_wp2_with fail
  refine (shaped_un _).mono ?_
  rintro r w1 ⟨rfl, hg⟩
  have hb : w1.heap[w.heap.size]? = some (.cells #[.int .i64 0, .int .i64 0, .int .u64 0] 28) := hg.heap (heap_alloc_new _ _)
  have HR := Lib.hid hb
  have HG : Hid (Grew w w1) := ((Grew.refl w).alloc _).trans hg
  have HSZ := Lib.hid hg.size
  clear hb hg
  go_wp2_with fail
  go_loopw [12, 13] (fun e i wr => ∃ k : Nat, k ≤ l.length ∧ i = .int .i64 k ∧ e = .int .i64 (eachL legalE 0 (l.take k)) ∧ Hid (Grew w wr ∧ wr.heap[w.heap.size]? = some (.cells #[.int .i64 0, .int .i64 0, .int .u64 0] 28) ∧ wr.cell? ⟨w1.heap.size, 0, none⟩ = some (.int .i64 10) ∧ wr.cell? ⟨w1.heap.size, 1, none⟩ = some (.bool true) ∧ wr.cell? ⟨w1.heap.size, 2, none⟩ = some (fnv 41 #[]) ∧ wr.cell? ⟨w1.heap.size, 3, none⟩ = some (fnv 42 #[]))) (fun _ i _ => l.length - (intOf i).toNat)
  case atStart =>
    refine ⟨0, Nat.zero_le _, rfl, rfl, ?_⟩
    show _ ∧ _
    exact ⟨HG.out.alloc _, ((Grew.refl w1).alloc _).heap HR.out, by go_simp, by go_simp, by go_simp, by go_simp⟩
  case round =>
    obtain ⟨k, hk, rfl, rfl, HW⟩ := hrel
    by_cases hlt : k < l.length
    · by_cases he : eachL legalE 0 (l.take k) = 0
      · obtain ⟨bl, off, rfl, q0, q1, q2⟩ := HC.out k l[k] (List.getElem?_eq_getElem hlt)
        have HSN := Lib.hid (eachL_snoc legalE 0 l k hlt he)
        have d0 := HW.out.1.cell q0
        have d1 := HW.out.1.cell q1
        have d2 := HW.out.1.cell q2
        have g2 := HW.out.2.2.2.2.1
        rw [he]
        generalize l[k] = v at *
        obtain ⟨ty, wd, vn⟩ := v
        simp only at d0 d1 d2
        clear q0 q1 q2
        go_wp2_with fail
        refine wp_region_tables Grew [[], [0], [], [], [2, 3], [4], [1, 5], [6]] [[(54, 2), (55, 3), (56, 4), (57, 5), (58, 6), (12, 7)], [(52, 0), (54, 2), (55, 3), (56, 4), (57, 5), (12, 7)], [(52, 0), (53, 1), (55, 3), (57, 5), (58, 6), (12, 7)], [(52, 0), (53, 1), (54, 2), (57, 5), (58, 6), (12, 7)], [(52, 0), (53, 1), (54, 2), (55, 3), (58, 6), (12, 7)], [(52, 0), (53, 1), (54, 2), (55, 3), (56, 4), (12, 7)], [(52, 0), (53, 1), (54, 2), (55, 3), (56, 4), (57, 5)], [(52, 0), (53, 1), (54, 2), (55, 3), (56, 4), (57, 5), (58, 6)]] [(52, 0), (53, 1), (54, 2), (55, 3), (56, 4), (57, 5), (58, 6), (12, 7)]
          [Is (.pointer (some ⟨w1.heap.size, 2, none⟩)), Is (fnv 41 #[]), Is (.slice (some ⟨bl, off, none⟩) l.length c), Is (.int .i64 k), Is (.pointer (some ⟨bl, off + k * 3, none⟩)), Is (.agg #[.int .i64 ty, .int .i64 wd, .int .u64 vn]), Is (.int .i64 (legalE (ty, wd, vn))), Is (.int .i64 (legalE (ty, wd, vn)))]
          (by kernel_rfl) Grew.trans Grew.refl (Grew.refl _).drew (by kernel_rfl) ⟨is_st, is_st, is_st, is_st, is_st, is_st, is_st, is_st, trivial⟩ ⟨?_, ?_, ?_, ?_, ?_, ?_, ?_, ?_, trivial⟩ rfl ?_
        · intro y w2 hG hD K hK
          simp only [fillL, Act.put, List.setIfInBounds_toArray, List.set_cons_zero, List.set_cons_succ, List.getD_cons_zero, List.getD_cons_succ, Is] at hK ⊢
          refine ite_yes (by rfl) ?_
          go_simp
          exact hK _ _ _ rfl (Grew.refl _) rfl
        · intro y w2 hG hD K hK
          simp only [depsH, List.getD_cons_zero, List.getD_cons_succ, Is, and_true] at hD
          have h0 := hD
          clear hD
          have dg2 := hG.cell g2
          have dd0 := hG.cell d0
          have dd1 := hG.cell d1
          have dd2 := hG.cell d2
          simp only [fillL, Act.put, List.setIfInBounds_toArray, List.set_cons_zero, List.set_cons_succ, List.getD_cons_zero, List.getD_cons_succ, Is] at hK ⊢
          rw [h0] at hK ⊢
          clear h0
          refine ite_yes (by rfl) ?_
          go_simp
          exact hK _ _ _ rfl (Grew.refl _) rfl
        · intro y w2 hG hD K hK
          simp only [fillL, Act.put, List.setIfInBounds_toArray, List.set_cons_zero, List.set_cons_succ, List.getD_cons_zero, List.getD_cons_succ, Is] at hK ⊢
          refine ite_yes (by rfl) ?_
          go_simp
          exact hK _ _ _ rfl (Grew.refl _) rfl
        · intro y w2 hG hD K hK
          simp only [fillL, Act.put, List.setIfInBounds_toArray, List.set_cons_zero, List.set_cons_succ, List.getD_cons_zero, List.getD_cons_succ, Is] at hK ⊢
          refine ite_yes (by rfl) ?_
          go_simp
          exact hK _ _ _ rfl (Grew.refl _) rfl
        · intro y w2 hG hD K hK
          simp only [depsH, List.getD_cons_zero, List.getD_cons_succ, Is, and_true] at hD
          have h2 := hD.1
          have h3 := hD.2
          clear hD
          simp only [fillL, Act.put, List.setIfInBounds_toArray, List.set_cons_zero, List.set_cons_succ, List.getD_cons_zero, List.getD_cons_succ, Is] at hK ⊢
          rw [h2, h3] at hK ⊢
          clear h2 h3
          refine ite_yes (by rfl) ?_
          go_simp
          exact hK _ _ _ rfl (Grew.refl _) rfl
        · intro y w2 hG hD K hK
          simp only [depsH, List.getD_cons_zero, List.getD_cons_succ, Is, and_true] at hD
          have h4 := hD
          clear hD
          have dg2 := hG.cell g2
          have dd0 := hG.cell d0
          have dd1 := hG.cell d1
          have dd2 := hG.cell d2
          simp only [fillL, Act.put, List.setIfInBounds_toArray, List.set_cons_zero, List.set_cons_succ, List.getD_cons_zero, List.getD_cons_succ, Is] at hK ⊢
          rw [h4] at hK ⊢
          clear h4
          refine ite_yes (by rfl) ?_
          go_simp
          exact hK _ _ _ rfl (Grew.refl _) rfl
        · intro y w2 hG hD K hK
          simp only [depsH, List.getD_cons_zero, List.getD_cons_succ, Is, and_true] at hD
          have h1 := hD.1
          have h5 := hD.2
          clear hD
          simp only [fillL, Act.put, List.setIfInBounds_toArray, List.set_cons_zero, List.set_cons_succ, List.getD_cons_zero, List.getD_cons_succ, Is] at hK ⊢
          rw [h1, h5] at hK ⊢
          clear h1 h5
          refine ite_yes (by rfl) ?_
          go_simp
          refine (legalV_any (ty, wd, vn) _).mono ?_
          rintro r w3 ⟨rfl, hg⟩
          exact hK _ _ _ rfl hg rfl
        · intro y w2 hG hD K hK
          simp only [depsH, List.getD_cons_zero, List.getD_cons_succ, Is, and_true] at hD
          have h6 := hD
          clear hD
          simp only [fillL, Act.put, List.setIfInBounds_toArray, List.set_cons_zero, List.set_cons_succ, List.getD_cons_zero, List.getD_cons_succ, Is] at hK ⊢
          rw [h6] at hK ⊢
          clear h6
          refine ite_yes (by rfl) ?_
          go_simp
          exact hK _ _ _ rfl (Grew.refl _) rfl
        · intro y w2 hG hF
          simp only [factsH, Is, and_true, Nat.reduceAdd] at hF
          have h0 := hF.1
          have h1 := hF.2.1
          have h2 := hF.2.2.1
          have h3 := hF.2.2.2.1
          have h4 := hF.2.2.2.2.1
          have h5 := hF.2.2.2.2.2.1
          have h6 := hF.2.2.2.2.2.2.1
          have h7 := hF.2.2.2.2.2.2.2
          clear hF
          simp only [fillL, Act.put, List.setIfInBounds_toArray, List.set_cons_zero, List.set_cons_succ, List.getD_cons_zero, List.getD_cons_succ, Is]
          rw [h0, h1, h2, h3, h4, h5, h6, h7]
          clear h0 h1 h2 h3 h4 h5 h6 h7
          have HG2 := Lib.hid (HW.out.1.trans hG)
          have HGG := Lib.hid hG
          clear hG
          go_wp2
          go_roundw
          case rel =>
            have hw := HW.out
            have hgg := HGG.out
            exact ⟨k + 1, by omega, by go_num, by rw [HSN.out], HG2.out, hgg.heap hw.2.1, hgg.cell hw.2.2.1, hgg.cell hw.2.2.2.1, hgg.cell hw.2.2.2.2.1, hgg.cell hw.2.2.2.2.2⟩
          case measure => simp [intOf]; omega
      · have hF : putF most legalE true true 10 0 l s = (((0, 0, 0), eachL legalE 0 (l.take k)), s) := by
          unfold putF
          rw [eachL_drop legalE 0 l k he, if_pos he]
        have HF := Lib.hid hF
        clear hF
        generalize eachL legalE 0 (l.take k) = e at *
        obtain ⟨hgw, hrow, _, _, _, _⟩ := HW.out
        have f0 := row_frozen hrow 0
        have f1 := row_frozen hrow 1
        have f2 := row_frozen hrow 2
        have c0 := row_cell hrow 0 _ rfl
        have c1 := row_cell hrow 1 _ rfl
        have c2 := row_cell hrow 2 _ rfl
        have HGW := Lib.hid hgw
        clear hrow hgw
        go_wp2
        refine bodyPost_ret (v := putV ((0, 0, 0), e)) ?_ rfl ⟨?_, ?_⟩
        · simp [results, Try.results10, go_sem, c0, c1, c2, putV, vV]
        · rw [← HPP.out, HF.out]
        · rw [← HPP.out, HF.out]
          exact (TurnB.refl HB0.out).grew ((((HGW.out).setCell (Nat.le_refl _) _).setCell (Nat.le_refl _) _).setCell (Nat.le_refl _) _)
    · have ek : k = l.length := by omega
      rw [ek, List.take_length]
      by_cases he : eachL legalE 0 l = 0
      · rw [he]
        clear hlt
        obtain ⟨hgw, hrow, g0, g1, g2, g3⟩ := HW.out
        have HGW := Lib.hid hgw
        have HROW := Lib.hid hrow
        clear hrow hgw HW
        go_wp2_with fail
        refine (len_any (HB0.out.grew HGW.out)).mono ?_
        rintro r w3 ⟨rfl, rfl⟩
        go_wp2_with fail
        refine (Ft.all_any l (0, 0, 0) _ 1 _ _ (by omega) HOK.out ok0 (HV.out.grew HGW.out)).mono ?_
        rintro r w3 ⟨rfl, hg⟩
        have HG3 := Lib.hid (HGW.out.trans hg)
        have HROW3 := Lib.hid (hg.heap HROW.out)
        replace g0 := hg.cell g0
        replace g1 := hg.cell g1
        replace g3 := hg.cell g3
        clear hg g2
        by_cases hx : allF l (0, 0, 0) s.1.length 1 = 0
        · have hF : putF most legalE true true 10 0 l s = (((0, 0, 0), 211), s) := by
            unfold putF
            rw [if_neg (by simpa using he)]
            simp [hx]
          have HF := Lib.hid hF
          clear hF
          rw [hx]
          have hrow := HROW3.out
          have f0 := row_frozen hrow 0
          have f1 := row_frozen hrow 1
          have f2 := row_frozen hrow 2
          have c0 := row_cell hrow 0 _ rfl
          have c1 := row_cell hrow 1 _ rfl
          have c2 := row_cell hrow 2 _ rfl
          clear hrow
          go_wp2
          refine bodyPost_ret (v := putV ((0, 0, 0), 211)) ?_ rfl ⟨?_, ?_⟩
          · simp [results, Try.results10, go_sem, c0, c1, c2, putV, vV]
          · rw [← HPP.out, HF.out]
          · rw [← HPP.out, HF.out]
            exact (TurnB.refl HB0.out).grew ((((HG3.out).setCell (Nat.le_refl _) _).setCell (Nat.le_refl _) _).setCell (Nat.le_refl _) _)
        · have HX := Lib.hid (allF_isW hx)
          have HXE := Lib.hid (rfl : allF l (0, 0, 0) s.1.length 1 = allF l (0, 0, 0) s.1.length 1)
          have HF : Hid (∀ x, allF l (0, 0, 0) s.1.length 1 = x → x ≠ 0 → putF most legalE true true 10 0 l s = if (tagsS most x l (elemsS most x l (numS most x l.length (alignS most x s)))).2 ≠ 0 then (((0, 0, 0), (tagsS most x l (elemsS most x l (numS most x l.length (alignS most x s)))).2), tagsS most x l (elemsS most x l (numS most x l.length (alignS most x s)))) else (((10, x, ((numS most x l.length (alignS most x s)).1.length : Int)), 0), tagsS most x l (elemsS most x l (numS most x l.length (alignS most x s))))) := by
            show ∀ x, _ = x → _
            intro x hx hx0
            unfold putF
            rw [if_neg (by simpa using he)]
            simp only [if_true]
            rw [hx, if_neg hx0]
          replace HF := Lib.hid (HF.out _ rfl hx)
          have M3 : Mid B w p o most (.slice a l.length c) l w.heap.size w1.heap.size 10 true (fnv 42 #[]) s o w3 := by
            have hs3 := HG3.out.size
            have hlt1 := lt_of_cell g0
            have hb0 := HB0.out.lt
            have hs1 := HG.out.size
            refine ⟨HB0.out.grew HG3.out, Next.refl _ _, Moved.of_grew HG3.out, ?_, HV.out.grew HG3.out, HROW3.out, g0, g1, g3⟩
            rintro b (rfl | rfl | ⟨ad, n, c', e, rfl⟩)
            · exact ⟨by simp at hlt1; omega, fun h => by have := hb0 _ h; omega⟩
            · exact ⟨by simpa using hlt1, fun h => by have := hb0 _ h; omega⟩
            · have := HA.out ad n c' e
              exact ⟨by omega, this.2⟩
          have HM3 := Lib.hid M3
          have HB3 : B ≤ w3.heap.size := Nat.le_trans hB HG3.out.size
          clear M3 HXE g0 g1 g3 HROW3 HROW HG3 HGW
          generalize allF l (0, 0, 0) s.1.length 1 = x at *
          go_wp2_with fail
          refine (align_any s x HM3.out.1 HB3 hl hm1).mono ?_
          rintro r w4 ⟨rfl, ht⟩
          have HB4 : B ≤ w4.heap.size := by obtain ⟨_, _, _, m⟩ := ht; exact Nat.le_trans HB3 m.size
          obtain ⟨o4, m4⟩ := HM3.out.step ht
          have g1 := m4.2.2.2.2.2.2.2.1
          have HM4 := Lib.hid m4
          clear ht m4
          go_wp2_with fail
          refine (num_any (alignS most x s) x (l.length : Int) HM4.out.1 HB4 (alignS_le hl) hm1 (by omega) (by omega)).mono ?_
          rintro r w5 ⟨rfl, ht⟩
          have HB5 : B ≤ w5.heap.size := by obtain ⟨_, _, _, m⟩ := ht; exact Nat.le_trans HB4 m.size
          obtain ⟨o5, m5⟩ := HM4.out.step ht
          have HM5 := Lib.hid m5
          clear ht m5 g1
          go_wp2_with fail
          refine (len_any HM5.out.1).mono ?_
          rintro r w6 ⟨rfl, rfl⟩
          go_wp2_with fail
          refine (elements_any (numS most x l.length (alignS most x s)) x _ l HX.out HM5.out.1 HB5 (numS_le (alignS_le hl)) hm1 HM5.out.2.2.2.2.1 hlen HOK.out (fun ad n c' e => (HM5.out.2.2.2.1 _ (.inr (.inr ⟨ad, n, c', e, rfl⟩))).2)).mono ?_
          rintro r w6 ⟨rfl, ht⟩
          have HB6 : B ≤ w6.heap.size := by obtain ⟨_, _, _, m⟩ := ht; exact Nat.le_trans HB5 m.size
          obtain ⟨o6, m6⟩ := HM5.out.step ht
          have g3 := m6.2.2.2.2.2.2.2.2
          have HM6 := Lib.hid m6
          clear ht m6
          go_wp2_with fail
          refine (tags_any (elemsS most x l (numS most x l.length (alignS most x s))) x _ l HM6.out.1 HB6 (elemsS_le l (numS_le (alignS_le hl))) hm1 HM6.out.2.2.2.2.1 hlen (fun ad n c' e => (HM6.out.2.2.2.1 _ (.inr (.inr ⟨ad, n, c', e, rfl⟩))).2)).mono ?_
          rintro r w7 ⟨rfl, ht⟩
          obtain ⟨o7, m7⟩ := HM6.out.step ht
          have g0 := m7.2.2.2.2.2.2.1
          have hrow := m7.2.2.2.2.2.1
          have HM7 := Lib.hid m7
          clear ht m7 g3
          go_wp2_with fail
          refine (err_any HM7.out.1).mono ?_
          rintro r w8 ⟨rfl, rfl⟩
          have hn2 := numS_le (x := x) (u := (l.length : Int)) (alignS_le (x := x) hl)
          by_cases hz : (tagsS most x l (elemsS most x l (numS most x l.length (alignS most x s)))).2 = 0
          · have HF2 : Hid (putF most legalE true true 10 0 l s = (((10, x, ((numS most x l.length (alignS most x s)).1.length : Int)), 0), (tagsS most x l (elemsS most x l (numS most x l.length (alignS most x s)))))) := HF.out.trans (if_neg (by simpa using hz))
            rw [hz]
            clear HF hz HM3 HM4 HM5 HM6
            generalize (tagsS most x l (elemsS most x l (numS most x l.length (alignS most x s)))) = sf at *
            generalize numS most x l.length (alignS most x s) = s2 at *
            have f0 := row_frozen hrow 0
            have f1 := row_frozen hrow 1
            have f2 := row_frozen hrow 2
            have c0 := row_cell hrow 0 _ rfl
            have c1 := row_cell hrow 1 _ rfl
            have c2 := row_cell hrow 2 _ rfl
            clear hrow
            go_wp2
            refine bodyPost_ret (v := putV ((10, x, (s2.1.length : Int)), 0)) ?_ rfl ⟨?_, ?_⟩
            · simp [results, Try.results10, go_sem, c0, c1, c2, putV, vV]
            · rw [← HPP.out, HF2.out]
            · rw [← HPP.out, HF2.out]
              exact HM7.out.turnSet (Nat.le_refl _) _ _ _
          · have HF2 : Hid (putF most legalE true true 10 0 l s = (((0, 0, 0), (tagsS most x l (elemsS most x l (numS most x l.length (alignS most x s)))).2), (tagsS most x l (elemsS most x l (numS most x l.length (alignS most x s)))))) := HF.out.trans (if_pos (by simpa using hz))
            clear HF HM3 HM4 HM5 HM6
            generalize (tagsS most x l (elemsS most x l (numS most x l.length (alignS most x s)))) = sf at *
            have f0 := row_frozen hrow 0
            have f1 := row_frozen hrow 1
            have f2 := row_frozen hrow 2
            have c0 := row_cell hrow 0 _ rfl
            have c1 := row_cell hrow 1 _ rfl
            have c2 := row_cell hrow 2 _ rfl
            clear hrow
            go_wp2
            refine bodyPost_ret (v := putV ((0, 0, 0), sf.2)) ?_ rfl ⟨?_, ?_⟩
            · simp [results, Try.results10, go_sem, c0, c1, c2, putV, vV]
            · rw [← HPP.out, HF2.out]
            · rw [← HPP.out, HF2.out]
              exact HM7.out.turnSet (Nat.le_refl _) _ _ _
      · have hF : putF most legalE true true 10 0 l s = (((0, 0, 0), eachL legalE 0 l), s) := by
          unfold putF
          rw [if_pos he]
        have HF := Lib.hid hF
        clear hF
        generalize eachL legalE 0 l = e at *
        obtain ⟨hgw, hrow, _, _, _, _⟩ := HW.out
        have f0 := row_frozen hrow 0
        have f1 := row_frozen hrow 1
        have f2 := row_frozen hrow 2
        have c0 := row_cell hrow 0 _ rfl
        have c1 := row_cell hrow 1 _ rfl
        have c2 := row_cell hrow 2 _ rfl
        have HGW := Lib.hid hgw
        clear hrow hgw
        go_wp2
        refine bodyPost_ret (v := putV ((0, 0, 0), e)) ?_ rfl ⟨?_, ?_⟩
        · simp [results, Try.results10, go_sem, c0, c1, c2, putV, vV]
        · rw [← HPP.out, HF.out]
        · rw [← HPP.out, HF.out]
          exact (TurnB.refl HB0.out).grew ((((HGW.out).setCell (Nat.le_refl _) _).setCell (Nat.le_refl _) _).setCell (Nat.le_refl _) _)
end Go.Proofs.Ytaoflhddcbmacaa

/-
  Vectors: the law's value.
-/
namespace Go.Proofs.Ytaoflhddcbmacaa
open Go Go.ChangeShapes Go.WideShapes Go.ChangeAt Go.RowKit Go.Joins
open Go.Proofs.Ytaoflhddcbmacaa.Ft (V3 vV okV ValsAt inlineB legalB packF codeF typedF allF)
set_option linter.unusedVariables false
set_option linter.unusedSimpArgs false

def widF (n : Int) : Int := if 2147483648 ≤ n then 8 else if 32768 ≤ n then 4 else if 128 ≤ n then 2 else 1
def kindF (k : Int) : Int := if k = 0 then 5 else if k = 1 then 4 else if k = 2 then 10 else if k = 3 then 6 else 9
def shlF (k : Int) : Int := if k = 0 then 1 else if k = 1 then 2 else if k = 2 then 4 else 8
def farF (n a : Int) : V3 := (kindF (n % 5), shlF (n / 5 % 4), n % max a 1)
def valN (k n a : Int) : V3 :=
  if k = 0 then (1, widF n, n) else if k = 1 then (1, widF n, IntKind.u64.wrap (-n)) else if k = 2 then (2, widF n, n) else if k = 3 then (26, 1, n % 2) else farF n a
def valF (x : Int × Int) (a : Int) : V3 := valN (x.1 % 6) (x.2 % 1099511627776) a
abbrev pairV (x : Int × Int) : Value := .agg #[.int .i64 x.1, .int .i64 x.2]
/-- The table of the far kinds. -/
abbrev tabC : Array Value := #[.int .i64 5, .int .i64 4, .int .i64 10, .int .i64 6, .int .i64 9]
theorem tab_cell (k : Nat) (hk : k < 5) : tabC[k]? = some (.int .i64 (kindF k)) := by
  rcases (show k = 0 ∨ k = 1 ∨ k = 2 ∨ k = 3 ∨ k = 4 by omega) with rfl | rfl | rfl | rfl | rfl <;> rfl
theorem shl_small (k : Nat) (hk : k < 4) : IntKind.i64.wrap ((2 : Int) ^ k) = shlF k := by
  rcases (show k = 0 ∨ k = 1 ∨ k = 2 ∨ k = 3 by omega) with rfl | rfl | rfl | rfl <;> rfl
theorem tab_st : ∀ (v : Value) (w w' : World), Grew w w' → (∃ g, v = .slice (some ⟨g, 0, none⟩) 5 5 ∧ w.heap[g]? = some (.cells tabC 3)) → (∃ g, v = .slice (some ⟨g, 0, none⟩) 5 5 ∧ w'.heap[g]? = some (.cells tabC 3)) := fun v w w' hg ⟨g, h1, h2⟩ => ⟨g, h1, hg.heap h2⟩
theorem tabp_st {k5 : Nat} : ∀ (v : Value) (w w' : World), Grew w w' → (∃ g, v = .pointer (some ⟨g, k5, none⟩) ∧ w.heap[g]? = some (.cells tabC 3)) → (∃ g, v = .pointer (some ⟨g, k5, none⟩) ∧ w'.heap[g]? = some (.cells tabC 3)) := fun v w w' hg ⟨g, h1, h2⟩ => ⟨g, h1, hg.heap h2⟩
set_option maxRecDepth 100000 in
set_option maxHeartbeats 4000000 in
theorem value_any (x : Int × Int) (a : Int) (w : World) (h0 : 0 ≤ a) (h1 : a ≤ 4611686018427387904) : Calls Try.prog 22 #[pairV x, .int .i64 a] w fun r w' => r = .returned (vV (valF x a)) ∧ Grew w w' := by
  obtain ⟨x0, x1⟩ := x
  show Calls Try.prog 22 #[.agg #[.int .i64 x0, .int .i64 x1], .int .i64 a] w _
  have HR : Hid (valF (x0, x1) a = valN (x0 % 6) (x1 % 1099511627776) a) := rfl
  generalize valF (x0, x1) a = R at *
  go_enter Try.func22, Try.ntmps22
  go_wp2_with fail
  refine (bringL_any x1 1099511627776 _ (by omega) (by omega)).mono ?_
  rintro r w1 ⟨rfl, rfl⟩
  have n0 : 0 ≤ x1 % 1099511627776 := by omega
  have n1 : x1 % 1099511627776 < 1099511627776 := by omega
  generalize x1 % 1099511627776 = n at *
  generalize hW : ((w.alloc (.cells #[.int .i64 x0, .int .i64 x1] 38)).alloc (.cells #[.int .i64 0, .int .i64 0, .int .u64 0] 28)) = W
  have HG : Hid (Grew w W) := by subst hW; exact ((Grew.refl w).alloc _).alloc _
  have hx : W.heap[w.heap.size]? = some (.cells #[.int .i64 x0, .int .i64 x1] 38) := by subst hW; exact ((Grew.refl _).alloc _).heap (heap_alloc_new _ _)
  have hr : W.heap[w.heap.size + 1]? = some (.cells #[.int .i64 0, .int .i64 0, .int .u64 0] 28) := by
    subst hW
    have h := heap_alloc_new (w.alloc (.cells #[.int .i64 x0, .int .i64 x1] 38)) (.cells #[.int .i64 0, .int .i64 0, .int .u64 0] 28)
    simpa using h
  have cx := row_cell hx 0 _ rfl
  have HROW := Lib.hid hr
  clear hW hx hr
  go_wp2_with fail
  go_loopw [6] (fun i wr => ∃ k : Int, i = .int .i64 k ∧ wr = W ∧ Hid ((k = 8) ∨ (k = 4 ∧ n < 2147483648) ∨ (k = 2 ∧ n < 32768) ∨ (k = 1 ∧ n < 128))) (fun i _ => (intOf i).toNat)
  case atStart => exact ⟨8, rfl, rfl, .inl rfl⟩
  case round =>
    obtain ⟨k, rfl, rfl, HK⟩ := hrel
    rcases HK.out with k8 | ⟨k4, hq⟩ | ⟨k2, hq⟩ | ⟨k1, hq⟩
    · subst k8
      clear HK
      by_cases hn : n < 2147483648
      · go_wp2
        go_roundw
        case rel => exact ⟨4, rfl, trivial, by show _ ∨ _; omega⟩
        case measure => simp [intOf]
      · have HE : Hid (widF n = 8) := by show _ = _; unfold widF; repeat' split; all_goals omega
        go_wp2_with fail
        refine (bringL_any x0 6 _ (by omega) (by omega)).mono ?_
        rintro r w1 ⟨rfl, rfl⟩
        have m0 : 0 ≤ x0 % 6 := by omega
        have m1 : x0 % 6 < 6 := by omega
        generalize x0 % 6 = m at *
        by_cases e0 : m = 0
        · subst e0
          have HF : Hid (R = (1, 8, n)) := HR.out.trans (by simp [valN, HE.out])
          have hmw : IntKind.u64.wrap n = n := by rw [IntKind.wrap_u64]; omega
          go_wp2_with fail
          refine (num17_any n 8 _).mono ?_
          rintro r w2 ⟨rfl, hg⟩
          have HG2 := Lib.hid (HG.out.trans hg)
          have hrow := hg.heap HROW.out
          have f0 := row_frozen hrow 0
          have f1 := row_frozen hrow 1
          have f2 := row_frozen hrow 2
          have c0 := row_cell hrow 0 _ rfl
          have c1 := row_cell hrow 1 _ rfl
          have c2 := row_cell hrow 2 _ rfl
          clear hrow
          clear hg
          go_wp2
          refine bodyPost_ret (v := vV (1, 8, n)) (by simp [results, Try.results22, go_sem, c0, c1, c2, vV]) rfl ⟨by rw [HF.out], ((HG2.out.setCell (Nat.le_succ _) _).setCell (Nat.le_succ _) _).setCell (Nat.le_succ _) _⟩
        by_cases e1 : m = 1
        · subst e1
          have HF : Hid (R = (1, 8, IntKind.u64.wrap (-n))) := HR.out.trans (by simp [valN, HE.out])
          go_wp2_with fail
          refine (num17_any (-n) 8 _).mono ?_
          rintro r w2 ⟨rfl, hg⟩
          have HG2 := Lib.hid (HG.out.trans hg)
          have hrow := hg.heap HROW.out
          have f0 := row_frozen hrow 0
          have f1 := row_frozen hrow 1
          have f2 := row_frozen hrow 2
          have c0 := row_cell hrow 0 _ rfl
          have c1 := row_cell hrow 1 _ rfl
          have c2 := row_cell hrow 2 _ rfl
          clear hrow
          clear hg
          go_wp2
          refine bodyPost_ret (v := vV (1, 8, IntKind.u64.wrap (-n))) (by simp [results, Try.results22, go_sem, c0, c1, c2, vV]) rfl ⟨by rw [HF.out], ((HG2.out.setCell (Nat.le_succ _) _).setCell (Nat.le_succ _) _).setCell (Nat.le_succ _) _⟩
        by_cases e2 : m = 2
        · subst e2
          have HF : Hid (R = (2, 8, n)) := HR.out.trans (by simp [valN, HE.out])
          have hmw : IntKind.u64.wrap n = n := by rw [IntKind.wrap_u64]; omega
          go_wp2_with fail
          refine (uns17_any n 8 _).mono ?_
          rintro r w2 ⟨rfl, hg⟩
          have HG2 := Lib.hid (HG.out.trans hg)
          have hrow := hg.heap HROW.out
          have f0 := row_frozen hrow 0
          have f1 := row_frozen hrow 1
          have f2 := row_frozen hrow 2
          have c0 := row_cell hrow 0 _ rfl
          have c1 := row_cell hrow 1 _ rfl
          have c2 := row_cell hrow 2 _ rfl
          clear hrow
          clear hg
          go_wp2
          refine bodyPost_ret (v := vV (2, 8, n)) (by simp [results, Try.results22, go_sem, c0, c1, c2, vV]) rfl ⟨by rw [HF.out], ((HG2.out.setCell (Nat.le_succ _) _).setCell (Nat.le_succ _) _).setCell (Nat.le_succ _) _⟩
        by_cases e3 : m = 3
        · subst e3
          have HF : Hid (R = (26, 1, n % 2)) := HR.out.trans (by simp [valN, HE.out])
          have em : n.tmod 2 = n % 2 := Int.tmod_eq_emod_of_nonneg n0
          have hm0 : 0 ≤ n % 2 := by omega
          have hm1 : n % 2 < 2 := by omega
          have hmw : IntKind.u64.wrap (n % 2) = n % 2 := by rw [IntKind.wrap_u64]; omega
          have HG2 := Lib.hid HG.out
          have hrow := HROW.out
          have f0 := row_frozen hrow 0
          have f1 := row_frozen hrow 1
          have f2 := row_frozen hrow 2
          have c0 := row_cell hrow 0 _ rfl
          have c1 := row_cell hrow 1 _ rfl
          have c2 := row_cell hrow 2 _ rfl
          clear hrow
          go_wp2
          refine bodyPost_ret (v := vV (26, 1, n % 2)) (by simp [results, Try.results22, go_sem, c0, c1, c2, vV]) rfl ⟨by rw [HF.out], ((HG2.out.setCell (Nat.le_succ _) _).setCell (Nat.le_succ _) _).setCell (Nat.le_succ _) _⟩
        have HF : Hid (R = farF n a) := HR.out.trans (by simp [valN, e0, e1, e2, e3])
        go_wp2_with fail
        have b0 : (m == 0) = false := by simpa using e0
        have b1 : (m == 1) = false := by simpa using e1
        have b2 : (m == 2) = false := by simpa using e2
        have b3 : (m == 3) = false := by simpa using e3
        simp only [b0, b1, b2, b3]
        clear b0 b1 b2 b3 e0 e1 e2 e3 m0 m1
        clear HR
        obtain ⟨k5, hk5⟩ : ∃ k : Nat, n % 5 = k := ⟨(n % 5).toNat, by omega⟩
        obtain ⟨k4, hk4⟩ : ∃ k : Nat, n / 5 % 4 = k := ⟨(n / 5 % 4).toNat, by omega⟩
        have l5 : k5 < 5 := by omega
        have l4 : k4 < 4 := by omega
        obtain ⟨am, ham⟩ : ∃ m : Int, max a 1 = m := ⟨_, rfl⟩
        have am1 : 1 ≤ am := by omega
        have am2 : am ≤ 4611686018427387904 := by omega
        obtain ⟨q, hq⟩ : ∃ q : Int, n / 5 = q := ⟨_, rfl⟩
        rw [hq] at hk4
        have q0 : 0 ≤ q := by omega
        have q1 : q ≤ 1099511627776 := by omega
        obtain ⟨rr, hrr⟩ : ∃ r : Int, n % am = r := ⟨_, rfl⟩
        have ham0 : ¬ am = 0 := by omega
        replace HF : Hid (R = (kindF k5, shlF k4, rr)) := HF.out.trans (by unfold farF; rw [hk5, hq, hk4, ham, hrr])
        have t5 : n.tmod 5 = (k5 : Int) := by rw [Int.tmod_eq_emod_of_nonneg n0]; exact hk5
        have d5 : n.tdiv 5 = q := by rw [Int.tdiv_eq_ediv_of_nonneg n0]; exact hq
        have t4 : q.tmod 4 = (k4 : Int) := by rw [Int.tmod_eq_emod_of_nonneg q0]; exact hk4
        have tm : n.tmod am = rr := by rw [Int.tmod_eq_emod_of_nonneg n0]; exact hrr
        have r0 : 0 ≤ rr := by rw [← hrr]; exact Int.emod_nonneg _ (by omega)
        have r1 : rr < am := by rw [← hrr]; exact Int.emod_lt_of_pos _ (by omega)
        have HAM := Lib.hid ham
        have qw : IntKind.i64.wrap q = q := by rw [IntKind.wrap_i64]; omega
        have rw1 : IntKind.u64.wrap rr = rr := by rw [IntKind.wrap_u64]; omega
        have i5 : (k5 : Int) < 5 := by omega
        clear hk5 hk4 ham hq hrr
        refine wp_region_last Grew [[], [], [1], [0, 2], [3], [], [5], [6], [7], [], [], [10], [9, 11], [12], [4, 8, 13], [14]] [[(50, 1), (51, 2), (53, 4), (54, 5), (55, 6), (56, 7), (57, 8), (58, 9), (59, 10), (60, 11), (61, 12), (62, 13), (63, 14)], [(49, 0), (52, 3), (53, 4), (54, 5), (55, 6), (56, 7), (57, 8), (58, 9), (59, 10), (60, 11), (61, 12), (62, 13), (63, 14)], [(49, 0), (50, 1), (53, 4), (54, 5), (55, 6), (56, 7), (57, 8), (58, 9), (59, 10), (60, 11), (61, 12), (62, 13), (63, 14)], [(49, 0), (50, 1), (51, 2), (54, 5), (55, 6), (56, 7), (57, 8), (58, 9), (59, 10), (60, 11), (61, 12), (62, 13), (63, 14)], [(49, 0), (50, 1), (51, 2), (52, 3), (54, 5), (55, 6), (56, 7), (57, 8), (58, 9), (59, 10), (60, 11), (61, 12), (62, 13)], [(49, 0), (50, 1), (51, 2), (52, 3), (53, 4), (56, 7), (57, 8), (58, 9), (59, 10), (60, 11), (61, 12), (62, 13), (63, 14)], [(49, 0), (50, 1), (51, 2), (52, 3), (53, 4), (54, 5), (57, 8), (58, 9), (59, 10), (60, 11), (61, 12), (62, 13), (63, 14)], [(49, 0), (50, 1), (51, 2), (52, 3), (53, 4), (54, 5), (55, 6), (58, 9), (59, 10), (60, 11), (61, 12), (62, 13), (63, 14)], [(49, 0), (50, 1), (51, 2), (52, 3), (53, 4), (54, 5), (55, 6), (56, 7), (58, 9), (59, 10), (60, 11), (61, 12), (62, 13)], [(49, 0), (50, 1), (51, 2), (52, 3), (53, 4), (54, 5), (55, 6), (56, 7), (57, 8), (59, 10), (60, 11), (62, 13), (63, 14)], [(49, 0), (50, 1), (51, 2), (52, 3), (53, 4), (54, 5), (55, 6), (56, 7), (57, 8), (58, 9), (61, 12), (62, 13), (63, 14)], [(49, 0), (50, 1), (51, 2), (52, 3), (53, 4), (54, 5), (55, 6), (56, 7), (57, 8), (58, 9), (59, 10), (62, 13), (63, 14)], [(49, 0), (50, 1), (51, 2), (52, 3), (53, 4), (54, 5), (55, 6), (56, 7), (57, 8), (58, 9), (59, 10), (60, 11), (63, 14)], [(49, 0), (50, 1), (51, 2), (52, 3), (53, 4), (54, 5), (55, 6), (56, 7), (57, 8), (58, 9), (59, 10), (60, 11), (61, 12)], [(49, 0), (50, 1), (51, 2), (52, 3), (53, 4), (54, 5), (55, 6), (56, 7), (57, 8), (58, 9), (59, 10), (60, 11), (61, 12), (62, 13)], [(49, 0), (50, 1), (51, 2), (52, 3), (53, 4), (54, 5), (55, 6), (56, 7), (57, 8), (58, 9), (59, 10), (60, 11), (61, 12), (62, 13), (63, 14)]]
          [fun v w => ∃ g, v = .slice (some ⟨g, 0, none⟩) 5 5 ∧ w.heap[g]? = some (.cells tabC 3), Is (.int .i64 n), Is (.int .i64 (k5 : Int)), fun v w => ∃ g, v = .pointer (some ⟨g, k5, none⟩) ∧ w.heap[g]? = some (.cells tabC 3), Is (.int .i64 (kindF k5)), Is (.int .i64 n), Is (.int .i64 q), Is (.int .i64 (k4 : Int)), Is (.int .i64 (shlF k4)), Is (.int .i64 n), Is (.int .i64 a), Is (.int .i64 am), Is (.int .i64 rr), Is (.int .u64 rr), Is (.agg #[.int .i64 (kindF k5), .int .i64 (shlF k4), .int .u64 rr])]
          (by kernel_rfl) Grew.trans Grew.refl (Grew.refl _).drew (by kernel_rfl) ⟨tab_st, is_st, is_st, tabp_st, is_st, is_st, is_st, is_st, is_st, is_st, is_st, is_st, is_st, is_st, is_st, trivial⟩ rfl ⟨?_, ?_, ?_, ?_, ?_, ?_, ?_, ?_, ?_, ?_, ?_, ?_, ?_, ?_, ?_, trivial⟩ ?_ rfl
        · intro y w2 hG hD K hK
          simp only [fillL, Act.put, List.setIfInBounds_toArray, List.set_cons_zero, List.set_cons_succ, List.getD_cons_zero, List.getD_cons_succ, Is] at hK ⊢
          refine ite_yes (by rfl) ?_
          go_simp
          exact hK _ _ _ rfl ((Grew.refl _).alloc _) ⟨_, rfl, heap_alloc_new _ _⟩
        · intro y w2 hG hD K hK
          simp only [fillL, Act.put, List.setIfInBounds_toArray, List.set_cons_zero, List.set_cons_succ, List.getD_cons_zero, List.getD_cons_succ, Is] at hK ⊢
          refine ite_yes (by rfl) ?_
          go_simp
          exact hK _ _ _ rfl (Grew.refl _) rfl
        · intro y w2 hG hD K hK
          simp only [depsH, List.getD_cons_zero, List.getD_cons_succ, Is, and_true] at hD
          have h1 := hD
          clear hD
          simp only [fillL, Act.put, List.setIfInBounds_toArray, List.set_cons_zero, List.set_cons_succ, List.getD_cons_zero, List.getD_cons_succ, Is] at hK ⊢
          rw [h1] at hK ⊢
          clear h1
          refine ite_yes (by rfl) ?_
          go_simp
          exact hK _ _ _ rfl (Grew.refl _) rfl
        · intro y w2 hG hD K hK
          simp only [depsH, List.getD_cons_zero, List.getD_cons_succ, Is, and_true] at hD
          have h0 := hD.1
          have h2 := hD.2
          clear hD
          simp only [fillL, Act.put, List.setIfInBounds_toArray, List.set_cons_zero, List.set_cons_succ, List.getD_cons_zero, List.getD_cons_succ, Is] at hK ⊢
          rw [h2] at hK ⊢
          clear h2
          refine ite_yes (by rfl) ?_
          refine Exists.elim h0 fun g h => ?_
          have hs := h.1
          have hh := h.2
          clear h h0
          rw [hs] at hK ⊢
          go_simp
          exact hK _ _ _ rfl (Grew.refl _) ⟨g, rfl, hh⟩
        · intro y w2 hG hD K hK
          simp only [depsH, List.getD_cons_zero, List.getD_cons_succ, Is, and_true] at hD
          have h3 := hD
          clear hD
          simp only [fillL, Act.put, List.setIfInBounds_toArray, List.set_cons_zero, List.set_cons_succ, List.getD_cons_zero, List.getD_cons_succ, Is] at hK ⊢
          refine ite_yes (by rfl) ?_
          refine Exists.elim h3 fun g h => ?_
          have hs := h.1
          have hc := row_cell h.2 k5 _ (tab_cell k5 l5)
          clear h h3
          rw [hs] at hK ⊢
          go_simp
          exact hK _ _ _ rfl (Grew.refl _) rfl
        · intro y w2 hG hD K hK
          simp only [fillL, Act.put, List.setIfInBounds_toArray, List.set_cons_zero, List.set_cons_succ, List.getD_cons_zero, List.getD_cons_succ, Is] at hK ⊢
          refine ite_yes (by rfl) ?_
          go_simp
          exact hK _ _ _ rfl (Grew.refl _) rfl
        · intro y w2 hG hD K hK
          simp only [depsH, List.getD_cons_zero, List.getD_cons_succ, Is, and_true] at hD
          have h5 := hD
          clear hD
          simp only [fillL, Act.put, List.setIfInBounds_toArray, List.set_cons_zero, List.set_cons_succ, List.getD_cons_zero, List.getD_cons_succ, Is] at hK ⊢
          rw [h5] at hK ⊢
          clear h5
          refine ite_yes (by rfl) ?_
          go_simp
          exact hK _ _ _ rfl (Grew.refl _) rfl
        · intro y w2 hG hD K hK
          simp only [depsH, List.getD_cons_zero, List.getD_cons_succ, Is, and_true] at hD
          have h6 := hD
          clear hD
          simp only [fillL, Act.put, List.setIfInBounds_toArray, List.set_cons_zero, List.set_cons_succ, List.getD_cons_zero, List.getD_cons_succ, Is] at hK ⊢
          rw [h6] at hK ⊢
          clear h6
          refine ite_yes (by rfl) ?_
          go_simp
          exact hK _ _ _ rfl (Grew.refl _) rfl
        · intro y w2 hG hD K hK
          simp only [depsH, List.getD_cons_zero, List.getD_cons_succ, Is, and_true] at hD
          have h7 := hD
          clear hD
          simp only [fillL, Act.put, List.setIfInBounds_toArray, List.set_cons_zero, List.set_cons_succ, List.getD_cons_zero, List.getD_cons_succ, Is] at hK ⊢
          rw [h7] at hK ⊢
          clear h7
          refine ite_yes (by rfl) ?_
          go_simp
          exact hK _ _ _ rfl (Grew.refl _) (congrArg (Value.int _) (shl_small k4 l4))
        · intro y w2 hG hD K hK
          simp only [fillL, Act.put, List.setIfInBounds_toArray, List.set_cons_zero, List.set_cons_succ, List.getD_cons_zero, List.getD_cons_succ, Is] at hK ⊢
          refine ite_yes (by rfl) ?_
          go_simp
          exact hK _ _ _ rfl (Grew.refl _) rfl
        · intro y w2 hG hD K hK
          simp only [fillL, Act.put, List.setIfInBounds_toArray, List.set_cons_zero, List.set_cons_succ, List.getD_cons_zero, List.getD_cons_succ, Is] at hK ⊢
          refine ite_yes (by rfl) ?_
          go_simp
          exact hK _ _ _ rfl (Grew.refl _) rfl
        · intro y w2 hG hD K hK
          simp only [depsH, List.getD_cons_zero, List.getD_cons_succ, Is, and_true] at hD
          have h10 := hD
          clear hD
          simp only [fillL, Act.put, List.setIfInBounds_toArray, List.set_cons_zero, List.set_cons_succ, List.getD_cons_zero, List.getD_cons_succ, Is] at hK ⊢
          rw [h10] at hK ⊢
          clear h10
          refine ite_yes (by rfl) ?_
          go_simp
          exact hK _ _ _ rfl (Grew.refl _) (congrArg (Value.int _) HAM.out)
        · intro y w2 hG hD K hK
          simp only [depsH, List.getD_cons_zero, List.getD_cons_succ, Is, and_true] at hD
          have h9 := hD.1
          have h11 := hD.2
          clear hD
          simp only [fillL, Act.put, List.setIfInBounds_toArray, List.set_cons_zero, List.set_cons_succ, List.getD_cons_zero, List.getD_cons_succ, Is] at hK ⊢
          rw [h9, h11] at hK ⊢
          clear h9 h11
          refine ite_yes (by rfl) ?_
          go_simp
          exact hK _ _ _ rfl (Grew.refl _) rfl
        · intro y w2 hG hD K hK
          simp only [depsH, List.getD_cons_zero, List.getD_cons_succ, Is, and_true] at hD
          have h12 := hD
          clear hD
          simp only [fillL, Act.put, List.setIfInBounds_toArray, List.set_cons_zero, List.set_cons_succ, List.getD_cons_zero, List.getD_cons_succ, Is] at hK ⊢
          rw [h12] at hK ⊢
          clear h12
          refine ite_yes (by rfl) ?_
          go_simp
          exact hK _ _ _ rfl (Grew.refl _) rfl
        · intro y w2 hG hD K hK
          simp only [depsH, List.getD_cons_zero, List.getD_cons_succ, Is, and_true] at hD
          have h4 := hD.1
          have h8 := hD.2.1
          have h13 := hD.2.2
          clear hD
          simp only [fillL, Act.put, List.setIfInBounds_toArray, List.set_cons_zero, List.set_cons_succ, List.getD_cons_zero, List.getD_cons_succ, Is] at hK ⊢
          rw [h4, h8, h13] at hK ⊢
          clear h4 h8 h13
          refine ite_yes (by rfl) ?_
          go_simp
          exact hK _ _ _ rfl (Grew.refl _) rfl
        · intro y w2 hG hF K hK
          simp only [factsH, Is, and_true, Nat.reduceAdd] at hF
          have h0 := hF.1
          have h1 := hF.2.1
          have h2 := hF.2.2.1
          have h3 := hF.2.2.2.1
          have h4 := hF.2.2.2.2.1
          have h5 := hF.2.2.2.2.2.1
          have h6 := hF.2.2.2.2.2.2.1
          have h7 := hF.2.2.2.2.2.2.2.1
          have h8 := hF.2.2.2.2.2.2.2.2.1
          have h9 := hF.2.2.2.2.2.2.2.2.2.1
          have h10 := hF.2.2.2.2.2.2.2.2.2.2.1
          have h11 := hF.2.2.2.2.2.2.2.2.2.2.2.1
          have h12 := hF.2.2.2.2.2.2.2.2.2.2.2.2.1
          have h13 := hF.2.2.2.2.2.2.2.2.2.2.2.2.2.1
          have h14 := hF.2.2.2.2.2.2.2.2.2.2.2.2.2.2
          clear hF
          simp only [lastOf]
          simp only [fillL, Act.put, List.setIfInBounds_toArray, List.set_cons_zero, List.set_cons_succ, List.getD_cons_zero, List.getD_cons_succ, Is] at hK ⊢
          rw [h1, h2, h4, h5, h6, h7, h8, h9, h10, h11, h12, h13, h14]
          clear h1 h2 h4 h5 h6 h7 h8 h9 h10 h11 h12 h13 h14
          refine ite_yes (by rfl) ?_
          have HG2 := Lib.hid (HG.out.trans hG)
          have hrow := hG.heap HROW.out
          have f0 := row_frozen hrow 0
          have f1 := row_frozen hrow 1
          have f2 := row_frozen hrow 2
          have c0 := row_cell hrow 0 _ rfl
          have c1 := row_cell hrow 1 _ rfl
          have c2 := row_cell hrow 2 _ rfl
          clear hrow hG
          go_simp
          refine hK _ _ ?_
          go_wp2
          refine bodyPost_ret (v := vV (kindF k5, shlF k4, rr)) (by simp [results, Try.results22, go_sem, c0, c1, c2, vV]) rfl ⟨by rw [HF.out], ((HG2.out.setCell (Nat.le_succ _) _).setCell (Nat.le_succ _) _).setCell (Nat.le_succ _) _⟩
    · subst k4
      clear HK
      by_cases hn : n < 32768
      · go_wp2
        go_roundw
        case rel => exact ⟨2, rfl, trivial, by show _ ∨ _; omega⟩
        case measure => simp [intOf]
      · have HE : Hid (widF n = 4) := by show _ = _; unfold widF; repeat' split; all_goals omega
        go_wp2_with fail
        refine (bringL_any x0 6 _ (by omega) (by omega)).mono ?_
        rintro r w1 ⟨rfl, rfl⟩
        have m0 : 0 ≤ x0 % 6 := by omega
        have m1 : x0 % 6 < 6 := by omega
        generalize x0 % 6 = m at *
        by_cases e0 : m = 0
        · subst e0
          have HF : Hid (R = (1, 4, n)) := HR.out.trans (by simp [valN, HE.out])
          have hmw : IntKind.u64.wrap n = n := by rw [IntKind.wrap_u64]; omega
          go_wp2_with fail
          refine (num17_any n 4 _).mono ?_
          rintro r w2 ⟨rfl, hg⟩
          have HG2 := Lib.hid (HG.out.trans hg)
          have hrow := hg.heap HROW.out
          have f0 := row_frozen hrow 0
          have f1 := row_frozen hrow 1
          have f2 := row_frozen hrow 2
          have c0 := row_cell hrow 0 _ rfl
          have c1 := row_cell hrow 1 _ rfl
          have c2 := row_cell hrow 2 _ rfl
          clear hrow
          clear hg
          go_wp2
          refine bodyPost_ret (v := vV (1, 4, n)) (by simp [results, Try.results22, go_sem, c0, c1, c2, vV]) rfl ⟨by rw [HF.out], ((HG2.out.setCell (Nat.le_succ _) _).setCell (Nat.le_succ _) _).setCell (Nat.le_succ _) _⟩
        by_cases e1 : m = 1
        · subst e1
          have HF : Hid (R = (1, 4, IntKind.u64.wrap (-n))) := HR.out.trans (by simp [valN, HE.out])
          go_wp2_with fail
          refine (num17_any (-n) 4 _).mono ?_
          rintro r w2 ⟨rfl, hg⟩
          have HG2 := Lib.hid (HG.out.trans hg)
          have hrow := hg.heap HROW.out
          have f0 := row_frozen hrow 0
          have f1 := row_frozen hrow 1
          have f2 := row_frozen hrow 2
          have c0 := row_cell hrow 0 _ rfl
          have c1 := row_cell hrow 1 _ rfl
          have c2 := row_cell hrow 2 _ rfl
          clear hrow
          clear hg
          go_wp2
          refine bodyPost_ret (v := vV (1, 4, IntKind.u64.wrap (-n))) (by simp [results, Try.results22, go_sem, c0, c1, c2, vV]) rfl ⟨by rw [HF.out], ((HG2.out.setCell (Nat.le_succ _) _).setCell (Nat.le_succ _) _).setCell (Nat.le_succ _) _⟩
        by_cases e2 : m = 2
        · subst e2
          have HF : Hid (R = (2, 4, n)) := HR.out.trans (by simp [valN, HE.out])
          have hmw : IntKind.u64.wrap n = n := by rw [IntKind.wrap_u64]; omega
          go_wp2_with fail
          refine (uns17_any n 4 _).mono ?_
          rintro r w2 ⟨rfl, hg⟩
          have HG2 := Lib.hid (HG.out.trans hg)
          have hrow := hg.heap HROW.out
          have f0 := row_frozen hrow 0
          have f1 := row_frozen hrow 1
          have f2 := row_frozen hrow 2
          have c0 := row_cell hrow 0 _ rfl
          have c1 := row_cell hrow 1 _ rfl
          have c2 := row_cell hrow 2 _ rfl
          clear hrow
          clear hg
          go_wp2
          refine bodyPost_ret (v := vV (2, 4, n)) (by simp [results, Try.results22, go_sem, c0, c1, c2, vV]) rfl ⟨by rw [HF.out], ((HG2.out.setCell (Nat.le_succ _) _).setCell (Nat.le_succ _) _).setCell (Nat.le_succ _) _⟩
        by_cases e3 : m = 3
        · subst e3
          have HF : Hid (R = (26, 1, n % 2)) := HR.out.trans (by simp [valN, HE.out])
          have em : n.tmod 2 = n % 2 := Int.tmod_eq_emod_of_nonneg n0
          have hm0 : 0 ≤ n % 2 := by omega
          have hm1 : n % 2 < 2 := by omega
          have hmw : IntKind.u64.wrap (n % 2) = n % 2 := by rw [IntKind.wrap_u64]; omega
          have HG2 := Lib.hid HG.out
          have hrow := HROW.out
          have f0 := row_frozen hrow 0
          have f1 := row_frozen hrow 1
          have f2 := row_frozen hrow 2
          have c0 := row_cell hrow 0 _ rfl
          have c1 := row_cell hrow 1 _ rfl
          have c2 := row_cell hrow 2 _ rfl
          clear hrow
          go_wp2
          refine bodyPost_ret (v := vV (26, 1, n % 2)) (by simp [results, Try.results22, go_sem, c0, c1, c2, vV]) rfl ⟨by rw [HF.out], ((HG2.out.setCell (Nat.le_succ _) _).setCell (Nat.le_succ _) _).setCell (Nat.le_succ _) _⟩
        have HF : Hid (R = farF n a) := HR.out.trans (by simp [valN, e0, e1, e2, e3])
        go_wp2_with fail
        have b0 : (m == 0) = false := by simpa using e0
        have b1 : (m == 1) = false := by simpa using e1
        have b2 : (m == 2) = false := by simpa using e2
        have b3 : (m == 3) = false := by simpa using e3
        simp only [b0, b1, b2, b3]
        clear b0 b1 b2 b3 e0 e1 e2 e3 m0 m1
        clear HR
        obtain ⟨k5, hk5⟩ : ∃ k : Nat, n % 5 = k := ⟨(n % 5).toNat, by omega⟩
        obtain ⟨k4, hk4⟩ : ∃ k : Nat, n / 5 % 4 = k := ⟨(n / 5 % 4).toNat, by omega⟩
        have l5 : k5 < 5 := by omega
        have l4 : k4 < 4 := by omega
        obtain ⟨am, ham⟩ : ∃ m : Int, max a 1 = m := ⟨_, rfl⟩
        have am1 : 1 ≤ am := by omega
        have am2 : am ≤ 4611686018427387904 := by omega
        obtain ⟨q, hq⟩ : ∃ q : Int, n / 5 = q := ⟨_, rfl⟩
        rw [hq] at hk4
        have q0 : 0 ≤ q := by omega
        have q1 : q ≤ 1099511627776 := by omega
        obtain ⟨rr, hrr⟩ : ∃ r : Int, n % am = r := ⟨_, rfl⟩
        have ham0 : ¬ am = 0 := by omega
        replace HF : Hid (R = (kindF k5, shlF k4, rr)) := HF.out.trans (by unfold farF; rw [hk5, hq, hk4, ham, hrr])
        have t5 : n.tmod 5 = (k5 : Int) := by rw [Int.tmod_eq_emod_of_nonneg n0]; exact hk5
        have d5 : n.tdiv 5 = q := by rw [Int.tdiv_eq_ediv_of_nonneg n0]; exact hq
        have t4 : q.tmod 4 = (k4 : Int) := by rw [Int.tmod_eq_emod_of_nonneg q0]; exact hk4
        have tm : n.tmod am = rr := by rw [Int.tmod_eq_emod_of_nonneg n0]; exact hrr
        have r0 : 0 ≤ rr := by rw [← hrr]; exact Int.emod_nonneg _ (by omega)
        have r1 : rr < am := by rw [← hrr]; exact Int.emod_lt_of_pos _ (by omega)
        have HAM := Lib.hid ham
        have qw : IntKind.i64.wrap q = q := by rw [IntKind.wrap_i64]; omega
        have rw1 : IntKind.u64.wrap rr = rr := by rw [IntKind.wrap_u64]; omega
        have i5 : (k5 : Int) < 5 := by omega
        clear hk5 hk4 ham hq hrr
        refine wp_region_last Grew [[], [], [1], [0, 2], [3], [], [5], [6], [7], [], [], [10], [9, 11], [12], [4, 8, 13], [14]] [[(50, 1), (51, 2), (53, 4), (54, 5), (55, 6), (56, 7), (57, 8), (58, 9), (59, 10), (60, 11), (61, 12), (62, 13), (63, 14)], [(49, 0), (52, 3), (53, 4), (54, 5), (55, 6), (56, 7), (57, 8), (58, 9), (59, 10), (60, 11), (61, 12), (62, 13), (63, 14)], [(49, 0), (50, 1), (53, 4), (54, 5), (55, 6), (56, 7), (57, 8), (58, 9), (59, 10), (60, 11), (61, 12), (62, 13), (63, 14)], [(49, 0), (50, 1), (51, 2), (54, 5), (55, 6), (56, 7), (57, 8), (58, 9), (59, 10), (60, 11), (61, 12), (62, 13), (63, 14)], [(49, 0), (50, 1), (51, 2), (52, 3), (54, 5), (55, 6), (56, 7), (57, 8), (58, 9), (59, 10), (60, 11), (61, 12), (62, 13)], [(49, 0), (50, 1), (51, 2), (52, 3), (53, 4), (56, 7), (57, 8), (58, 9), (59, 10), (60, 11), (61, 12), (62, 13), (63, 14)], [(49, 0), (50, 1), (51, 2), (52, 3), (53, 4), (54, 5), (57, 8), (58, 9), (59, 10), (60, 11), (61, 12), (62, 13), (63, 14)], [(49, 0), (50, 1), (51, 2), (52, 3), (53, 4), (54, 5), (55, 6), (58, 9), (59, 10), (60, 11), (61, 12), (62, 13), (63, 14)], [(49, 0), (50, 1), (51, 2), (52, 3), (53, 4), (54, 5), (55, 6), (56, 7), (58, 9), (59, 10), (60, 11), (61, 12), (62, 13)], [(49, 0), (50, 1), (51, 2), (52, 3), (53, 4), (54, 5), (55, 6), (56, 7), (57, 8), (59, 10), (60, 11), (62, 13), (63, 14)], [(49, 0), (50, 1), (51, 2), (52, 3), (53, 4), (54, 5), (55, 6), (56, 7), (57, 8), (58, 9), (61, 12), (62, 13), (63, 14)], [(49, 0), (50, 1), (51, 2), (52, 3), (53, 4), (54, 5), (55, 6), (56, 7), (57, 8), (58, 9), (59, 10), (62, 13), (63, 14)], [(49, 0), (50, 1), (51, 2), (52, 3), (53, 4), (54, 5), (55, 6), (56, 7), (57, 8), (58, 9), (59, 10), (60, 11), (63, 14)], [(49, 0), (50, 1), (51, 2), (52, 3), (53, 4), (54, 5), (55, 6), (56, 7), (57, 8), (58, 9), (59, 10), (60, 11), (61, 12)], [(49, 0), (50, 1), (51, 2), (52, 3), (53, 4), (54, 5), (55, 6), (56, 7), (57, 8), (58, 9), (59, 10), (60, 11), (61, 12), (62, 13)], [(49, 0), (50, 1), (51, 2), (52, 3), (53, 4), (54, 5), (55, 6), (56, 7), (57, 8), (58, 9), (59, 10), (60, 11), (61, 12), (62, 13), (63, 14)]]
          [fun v w => ∃ g, v = .slice (some ⟨g, 0, none⟩) 5 5 ∧ w.heap[g]? = some (.cells tabC 3), Is (.int .i64 n), Is (.int .i64 (k5 : Int)), fun v w => ∃ g, v = .pointer (some ⟨g, k5, none⟩) ∧ w.heap[g]? = some (.cells tabC 3), Is (.int .i64 (kindF k5)), Is (.int .i64 n), Is (.int .i64 q), Is (.int .i64 (k4 : Int)), Is (.int .i64 (shlF k4)), Is (.int .i64 n), Is (.int .i64 a), Is (.int .i64 am), Is (.int .i64 rr), Is (.int .u64 rr), Is (.agg #[.int .i64 (kindF k5), .int .i64 (shlF k4), .int .u64 rr])]
          (by kernel_rfl) Grew.trans Grew.refl (Grew.refl _).drew (by kernel_rfl) ⟨tab_st, is_st, is_st, tabp_st, is_st, is_st, is_st, is_st, is_st, is_st, is_st, is_st, is_st, is_st, is_st, trivial⟩ rfl ⟨?_, ?_, ?_, ?_, ?_, ?_, ?_, ?_, ?_, ?_, ?_, ?_, ?_, ?_, ?_, trivial⟩ ?_ rfl
        · intro y w2 hG hD K hK
          simp only [fillL, Act.put, List.setIfInBounds_toArray, List.set_cons_zero, List.set_cons_succ, List.getD_cons_zero, List.getD_cons_succ, Is] at hK ⊢
          refine ite_yes (by rfl) ?_
          go_simp
          exact hK _ _ _ rfl ((Grew.refl _).alloc _) ⟨_, rfl, heap_alloc_new _ _⟩
        · intro y w2 hG hD K hK
          simp only [fillL, Act.put, List.setIfInBounds_toArray, List.set_cons_zero, List.set_cons_succ, List.getD_cons_zero, List.getD_cons_succ, Is] at hK ⊢
          refine ite_yes (by rfl) ?_
          go_simp
          exact hK _ _ _ rfl (Grew.refl _) rfl
        · intro y w2 hG hD K hK
          simp only [depsH, List.getD_cons_zero, List.getD_cons_succ, Is, and_true] at hD
          have h1 := hD
          clear hD
          simp only [fillL, Act.put, List.setIfInBounds_toArray, List.set_cons_zero, List.set_cons_succ, List.getD_cons_zero, List.getD_cons_succ, Is] at hK ⊢
          rw [h1] at hK ⊢
          clear h1
          refine ite_yes (by rfl) ?_
          go_simp
          exact hK _ _ _ rfl (Grew.refl _) rfl
        · intro y w2 hG hD K hK
          simp only [depsH, List.getD_cons_zero, List.getD_cons_succ, Is, and_true] at hD
          have h0 := hD.1
          have h2 := hD.2
          clear hD
          simp only [fillL, Act.put, List.setIfInBounds_toArray, List.set_cons_zero, List.set_cons_succ, List.getD_cons_zero, List.getD_cons_succ, Is] at hK ⊢
          rw [h2] at hK ⊢
          clear h2
          refine ite_yes (by rfl) ?_
          refine Exists.elim h0 fun g h => ?_
          have hs := h.1
          have hh := h.2
          clear h h0
          rw [hs] at hK ⊢
          go_simp
          exact hK _ _ _ rfl (Grew.refl _) ⟨g, rfl, hh⟩
        · intro y w2 hG hD K hK
          simp only [depsH, List.getD_cons_zero, List.getD_cons_succ, Is, and_true] at hD
          have h3 := hD
          clear hD
          simp only [fillL, Act.put, List.setIfInBounds_toArray, List.set_cons_zero, List.set_cons_succ, List.getD_cons_zero, List.getD_cons_succ, Is] at hK ⊢
          refine ite_yes (by rfl) ?_
          refine Exists.elim h3 fun g h => ?_
          have hs := h.1
          have hc := row_cell h.2 k5 _ (tab_cell k5 l5)
          clear h h3
          rw [hs] at hK ⊢
          go_simp
          exact hK _ _ _ rfl (Grew.refl _) rfl
        · intro y w2 hG hD K hK
          simp only [fillL, Act.put, List.setIfInBounds_toArray, List.set_cons_zero, List.set_cons_succ, List.getD_cons_zero, List.getD_cons_succ, Is] at hK ⊢
          refine ite_yes (by rfl) ?_
          go_simp
          exact hK _ _ _ rfl (Grew.refl _) rfl
        · intro y w2 hG hD K hK
          simp only [depsH, List.getD_cons_zero, List.getD_cons_succ, Is, and_true] at hD
          have h5 := hD
          clear hD
          simp only [fillL, Act.put, List.setIfInBounds_toArray, List.set_cons_zero, List.set_cons_succ, List.getD_cons_zero, List.getD_cons_succ, Is] at hK ⊢
          rw [h5] at hK ⊢
          clear h5
          refine ite_yes (by rfl) ?_
          go_simp
          exact hK _ _ _ rfl (Grew.refl _) rfl
        · intro y w2 hG hD K hK
          simp only [depsH, List.getD_cons_zero, List.getD_cons_succ, Is, and_true] at hD
          have h6 := hD
          clear hD
          simp only [fillL, Act.put, List.setIfInBounds_toArray, List.set_cons_zero, List.set_cons_succ, List.getD_cons_zero, List.getD_cons_succ, Is] at hK ⊢
          rw [h6] at hK ⊢
          clear h6
          refine ite_yes (by rfl) ?_
          go_simp
          exact hK _ _ _ rfl (Grew.refl _) rfl
        · intro y w2 hG hD K hK
          simp only [depsH, List.getD_cons_zero, List.getD_cons_succ, Is, and_true] at hD
          have h7 := hD
          clear hD
          simp only [fillL, Act.put, List.setIfInBounds_toArray, List.set_cons_zero, List.set_cons_succ, List.getD_cons_zero, List.getD_cons_succ, Is] at hK ⊢
          rw [h7] at hK ⊢
          clear h7
          refine ite_yes (by rfl) ?_
          go_simp
          exact hK _ _ _ rfl (Grew.refl _) (congrArg (Value.int _) (shl_small k4 l4))
        · intro y w2 hG hD K hK
          simp only [fillL, Act.put, List.setIfInBounds_toArray, List.set_cons_zero, List.set_cons_succ, List.getD_cons_zero, List.getD_cons_succ, Is] at hK ⊢
          refine ite_yes (by rfl) ?_
          go_simp
          exact hK _ _ _ rfl (Grew.refl _) rfl
        · intro y w2 hG hD K hK
          simp only [fillL, Act.put, List.setIfInBounds_toArray, List.set_cons_zero, List.set_cons_succ, List.getD_cons_zero, List.getD_cons_succ, Is] at hK ⊢
          refine ite_yes (by rfl) ?_
          go_simp
          exact hK _ _ _ rfl (Grew.refl _) rfl
        · intro y w2 hG hD K hK
          simp only [depsH, List.getD_cons_zero, List.getD_cons_succ, Is, and_true] at hD
          have h10 := hD
          clear hD
          simp only [fillL, Act.put, List.setIfInBounds_toArray, List.set_cons_zero, List.set_cons_succ, List.getD_cons_zero, List.getD_cons_succ, Is] at hK ⊢
          rw [h10] at hK ⊢
          clear h10
          refine ite_yes (by rfl) ?_
          go_simp
          exact hK _ _ _ rfl (Grew.refl _) (congrArg (Value.int _) HAM.out)
        · intro y w2 hG hD K hK
          simp only [depsH, List.getD_cons_zero, List.getD_cons_succ, Is, and_true] at hD
          have h9 := hD.1
          have h11 := hD.2
          clear hD
          simp only [fillL, Act.put, List.setIfInBounds_toArray, List.set_cons_zero, List.set_cons_succ, List.getD_cons_zero, List.getD_cons_succ, Is] at hK ⊢
          rw [h9, h11] at hK ⊢
          clear h9 h11
          refine ite_yes (by rfl) ?_
          go_simp
          exact hK _ _ _ rfl (Grew.refl _) rfl
        · intro y w2 hG hD K hK
          simp only [depsH, List.getD_cons_zero, List.getD_cons_succ, Is, and_true] at hD
          have h12 := hD
          clear hD
          simp only [fillL, Act.put, List.setIfInBounds_toArray, List.set_cons_zero, List.set_cons_succ, List.getD_cons_zero, List.getD_cons_succ, Is] at hK ⊢
          rw [h12] at hK ⊢
          clear h12
          refine ite_yes (by rfl) ?_
          go_simp
          exact hK _ _ _ rfl (Grew.refl _) rfl
        · intro y w2 hG hD K hK
          simp only [depsH, List.getD_cons_zero, List.getD_cons_succ, Is, and_true] at hD
          have h4 := hD.1
          have h8 := hD.2.1
          have h13 := hD.2.2
          clear hD
          simp only [fillL, Act.put, List.setIfInBounds_toArray, List.set_cons_zero, List.set_cons_succ, List.getD_cons_zero, List.getD_cons_succ, Is] at hK ⊢
          rw [h4, h8, h13] at hK ⊢
          clear h4 h8 h13
          refine ite_yes (by rfl) ?_
          go_simp
          exact hK _ _ _ rfl (Grew.refl _) rfl
        · intro y w2 hG hF K hK
          simp only [factsH, Is, and_true, Nat.reduceAdd] at hF
          have h0 := hF.1
          have h1 := hF.2.1
          have h2 := hF.2.2.1
          have h3 := hF.2.2.2.1
          have h4 := hF.2.2.2.2.1
          have h5 := hF.2.2.2.2.2.1
          have h6 := hF.2.2.2.2.2.2.1
          have h7 := hF.2.2.2.2.2.2.2.1
          have h8 := hF.2.2.2.2.2.2.2.2.1
          have h9 := hF.2.2.2.2.2.2.2.2.2.1
          have h10 := hF.2.2.2.2.2.2.2.2.2.2.1
          have h11 := hF.2.2.2.2.2.2.2.2.2.2.2.1
          have h12 := hF.2.2.2.2.2.2.2.2.2.2.2.2.1
          have h13 := hF.2.2.2.2.2.2.2.2.2.2.2.2.2.1
          have h14 := hF.2.2.2.2.2.2.2.2.2.2.2.2.2.2
          clear hF
          simp only [lastOf]
          simp only [fillL, Act.put, List.setIfInBounds_toArray, List.set_cons_zero, List.set_cons_succ, List.getD_cons_zero, List.getD_cons_succ, Is] at hK ⊢
          rw [h1, h2, h4, h5, h6, h7, h8, h9, h10, h11, h12, h13, h14]
          clear h1 h2 h4 h5 h6 h7 h8 h9 h10 h11 h12 h13 h14
          refine ite_yes (by rfl) ?_
          have HG2 := Lib.hid (HG.out.trans hG)
          have hrow := hG.heap HROW.out
          have f0 := row_frozen hrow 0
          have f1 := row_frozen hrow 1
          have f2 := row_frozen hrow 2
          have c0 := row_cell hrow 0 _ rfl
          have c1 := row_cell hrow 1 _ rfl
          have c2 := row_cell hrow 2 _ rfl
          clear hrow hG
          go_simp
          refine hK _ _ ?_
          go_wp2
          refine bodyPost_ret (v := vV (kindF k5, shlF k4, rr)) (by simp [results, Try.results22, go_sem, c0, c1, c2, vV]) rfl ⟨by rw [HF.out], ((HG2.out.setCell (Nat.le_succ _) _).setCell (Nat.le_succ _) _).setCell (Nat.le_succ _) _⟩
    · subst k2
      clear HK
      by_cases hn : n < 128
      · go_wp2
        go_roundw
        case rel => exact ⟨1, rfl, trivial, by show _ ∨ _; omega⟩
        case measure => simp [intOf]
      · have HE : Hid (widF n = 2) := by show _ = _; unfold widF; repeat' split; all_goals omega
        go_wp2_with fail
        refine (bringL_any x0 6 _ (by omega) (by omega)).mono ?_
        rintro r w1 ⟨rfl, rfl⟩
        have m0 : 0 ≤ x0 % 6 := by omega
        have m1 : x0 % 6 < 6 := by omega
        generalize x0 % 6 = m at *
        by_cases e0 : m = 0
        · subst e0
          have HF : Hid (R = (1, 2, n)) := HR.out.trans (by simp [valN, HE.out])
          have hmw : IntKind.u64.wrap n = n := by rw [IntKind.wrap_u64]; omega
          go_wp2_with fail
          refine (num17_any n 2 _).mono ?_
          rintro r w2 ⟨rfl, hg⟩
          have HG2 := Lib.hid (HG.out.trans hg)
          have hrow := hg.heap HROW.out
          have f0 := row_frozen hrow 0
          have f1 := row_frozen hrow 1
          have f2 := row_frozen hrow 2
          have c0 := row_cell hrow 0 _ rfl
          have c1 := row_cell hrow 1 _ rfl
          have c2 := row_cell hrow 2 _ rfl
          clear hrow
          clear hg
          go_wp2
          refine bodyPost_ret (v := vV (1, 2, n)) (by simp [results, Try.results22, go_sem, c0, c1, c2, vV]) rfl ⟨by rw [HF.out], ((HG2.out.setCell (Nat.le_succ _) _).setCell (Nat.le_succ _) _).setCell (Nat.le_succ _) _⟩
        by_cases e1 : m = 1
        · subst e1
          have HF : Hid (R = (1, 2, IntKind.u64.wrap (-n))) := HR.out.trans (by simp [valN, HE.out])
          go_wp2_with fail
          refine (num17_any (-n) 2 _).mono ?_
          rintro r w2 ⟨rfl, hg⟩
          have HG2 := Lib.hid (HG.out.trans hg)
          have hrow := hg.heap HROW.out
          have f0 := row_frozen hrow 0
          have f1 := row_frozen hrow 1
          have f2 := row_frozen hrow 2
          have c0 := row_cell hrow 0 _ rfl
          have c1 := row_cell hrow 1 _ rfl
          have c2 := row_cell hrow 2 _ rfl
          clear hrow
          clear hg
          go_wp2
          refine bodyPost_ret (v := vV (1, 2, IntKind.u64.wrap (-n))) (by simp [results, Try.results22, go_sem, c0, c1, c2, vV]) rfl ⟨by rw [HF.out], ((HG2.out.setCell (Nat.le_succ _) _).setCell (Nat.le_succ _) _).setCell (Nat.le_succ _) _⟩
        by_cases e2 : m = 2
        · subst e2
          have HF : Hid (R = (2, 2, n)) := HR.out.trans (by simp [valN, HE.out])
          have hmw : IntKind.u64.wrap n = n := by rw [IntKind.wrap_u64]; omega
          go_wp2_with fail
          refine (uns17_any n 2 _).mono ?_
          rintro r w2 ⟨rfl, hg⟩
          have HG2 := Lib.hid (HG.out.trans hg)
          have hrow := hg.heap HROW.out
          have f0 := row_frozen hrow 0
          have f1 := row_frozen hrow 1
          have f2 := row_frozen hrow 2
          have c0 := row_cell hrow 0 _ rfl
          have c1 := row_cell hrow 1 _ rfl
          have c2 := row_cell hrow 2 _ rfl
          clear hrow
          clear hg
          go_wp2
          refine bodyPost_ret (v := vV (2, 2, n)) (by simp [results, Try.results22, go_sem, c0, c1, c2, vV]) rfl ⟨by rw [HF.out], ((HG2.out.setCell (Nat.le_succ _) _).setCell (Nat.le_succ _) _).setCell (Nat.le_succ _) _⟩
        by_cases e3 : m = 3
        · subst e3
          have HF : Hid (R = (26, 1, n % 2)) := HR.out.trans (by simp [valN, HE.out])
          have em : n.tmod 2 = n % 2 := Int.tmod_eq_emod_of_nonneg n0
          have hm0 : 0 ≤ n % 2 := by omega
          have hm1 : n % 2 < 2 := by omega
          have hmw : IntKind.u64.wrap (n % 2) = n % 2 := by rw [IntKind.wrap_u64]; omega
          have HG2 := Lib.hid HG.out
          have hrow := HROW.out
          have f0 := row_frozen hrow 0
          have f1 := row_frozen hrow 1
          have f2 := row_frozen hrow 2
          have c0 := row_cell hrow 0 _ rfl
          have c1 := row_cell hrow 1 _ rfl
          have c2 := row_cell hrow 2 _ rfl
          clear hrow
          go_wp2
          refine bodyPost_ret (v := vV (26, 1, n % 2)) (by simp [results, Try.results22, go_sem, c0, c1, c2, vV]) rfl ⟨by rw [HF.out], ((HG2.out.setCell (Nat.le_succ _) _).setCell (Nat.le_succ _) _).setCell (Nat.le_succ _) _⟩
        have HF : Hid (R = farF n a) := HR.out.trans (by simp [valN, e0, e1, e2, e3])
        go_wp2_with fail
        have b0 : (m == 0) = false := by simpa using e0
        have b1 : (m == 1) = false := by simpa using e1
        have b2 : (m == 2) = false := by simpa using e2
        have b3 : (m == 3) = false := by simpa using e3
        simp only [b0, b1, b2, b3]
        clear b0 b1 b2 b3 e0 e1 e2 e3 m0 m1
        clear HR
        obtain ⟨k5, hk5⟩ : ∃ k : Nat, n % 5 = k := ⟨(n % 5).toNat, by omega⟩
        obtain ⟨k4, hk4⟩ : ∃ k : Nat, n / 5 % 4 = k := ⟨(n / 5 % 4).toNat, by omega⟩
        have l5 : k5 < 5 := by omega
        have l4 : k4 < 4 := by omega
        obtain ⟨am, ham⟩ : ∃ m : Int, max a 1 = m := ⟨_, rfl⟩
        have am1 : 1 ≤ am := by omega
        have am2 : am ≤ 4611686018427387904 := by omega
        obtain ⟨q, hq⟩ : ∃ q : Int, n / 5 = q := ⟨_, rfl⟩
        rw [hq] at hk4
        have q0 : 0 ≤ q := by omega
        have q1 : q ≤ 1099511627776 := by omega
        obtain ⟨rr, hrr⟩ : ∃ r : Int, n % am = r := ⟨_, rfl⟩
        have ham0 : ¬ am = 0 := by omega
        replace HF : Hid (R = (kindF k5, shlF k4, rr)) := HF.out.trans (by unfold farF; rw [hk5, hq, hk4, ham, hrr])
        have t5 : n.tmod 5 = (k5 : Int) := by rw [Int.tmod_eq_emod_of_nonneg n0]; exact hk5
        have d5 : n.tdiv 5 = q := by rw [Int.tdiv_eq_ediv_of_nonneg n0]; exact hq
        have t4 : q.tmod 4 = (k4 : Int) := by rw [Int.tmod_eq_emod_of_nonneg q0]; exact hk4
        have tm : n.tmod am = rr := by rw [Int.tmod_eq_emod_of_nonneg n0]; exact hrr
        have r0 : 0 ≤ rr := by rw [← hrr]; exact Int.emod_nonneg _ (by omega)
        have r1 : rr < am := by rw [← hrr]; exact Int.emod_lt_of_pos _ (by omega)
        have HAM := Lib.hid ham
        have qw : IntKind.i64.wrap q = q := by rw [IntKind.wrap_i64]; omega
        have rw1 : IntKind.u64.wrap rr = rr := by rw [IntKind.wrap_u64]; omega
        have i5 : (k5 : Int) < 5 := by omega
        clear hk5 hk4 ham hq hrr
        refine wp_region_last Grew [[], [], [1], [0, 2], [3], [], [5], [6], [7], [], [], [10], [9, 11], [12], [4, 8, 13], [14]] [[(50, 1), (51, 2), (53, 4), (54, 5), (55, 6), (56, 7), (57, 8), (58, 9), (59, 10), (60, 11), (61, 12), (62, 13), (63, 14)], [(49, 0), (52, 3), (53, 4), (54, 5), (55, 6), (56, 7), (57, 8), (58, 9), (59, 10), (60, 11), (61, 12), (62, 13), (63, 14)], [(49, 0), (50, 1), (53, 4), (54, 5), (55, 6), (56, 7), (57, 8), (58, 9), (59, 10), (60, 11), (61, 12), (62, 13), (63, 14)], [(49, 0), (50, 1), (51, 2), (54, 5), (55, 6), (56, 7), (57, 8), (58, 9), (59, 10), (60, 11), (61, 12), (62, 13), (63, 14)], [(49, 0), (50, 1), (51, 2), (52, 3), (54, 5), (55, 6), (56, 7), (57, 8), (58, 9), (59, 10), (60, 11), (61, 12), (62, 13)], [(49, 0), (50, 1), (51, 2), (52, 3), (53, 4), (56, 7), (57, 8), (58, 9), (59, 10), (60, 11), (61, 12), (62, 13), (63, 14)], [(49, 0), (50, 1), (51, 2), (52, 3), (53, 4), (54, 5), (57, 8), (58, 9), (59, 10), (60, 11), (61, 12), (62, 13), (63, 14)], [(49, 0), (50, 1), (51, 2), (52, 3), (53, 4), (54, 5), (55, 6), (58, 9), (59, 10), (60, 11), (61, 12), (62, 13), (63, 14)], [(49, 0), (50, 1), (51, 2), (52, 3), (53, 4), (54, 5), (55, 6), (56, 7), (58, 9), (59, 10), (60, 11), (61, 12), (62, 13)], [(49, 0), (50, 1), (51, 2), (52, 3), (53, 4), (54, 5), (55, 6), (56, 7), (57, 8), (59, 10), (60, 11), (62, 13), (63, 14)], [(49, 0), (50, 1), (51, 2), (52, 3), (53, 4), (54, 5), (55, 6), (56, 7), (57, 8), (58, 9), (61, 12), (62, 13), (63, 14)], [(49, 0), (50, 1), (51, 2), (52, 3), (53, 4), (54, 5), (55, 6), (56, 7), (57, 8), (58, 9), (59, 10), (62, 13), (63, 14)], [(49, 0), (50, 1), (51, 2), (52, 3), (53, 4), (54, 5), (55, 6), (56, 7), (57, 8), (58, 9), (59, 10), (60, 11), (63, 14)], [(49, 0), (50, 1), (51, 2), (52, 3), (53, 4), (54, 5), (55, 6), (56, 7), (57, 8), (58, 9), (59, 10), (60, 11), (61, 12)], [(49, 0), (50, 1), (51, 2), (52, 3), (53, 4), (54, 5), (55, 6), (56, 7), (57, 8), (58, 9), (59, 10), (60, 11), (61, 12), (62, 13)], [(49, 0), (50, 1), (51, 2), (52, 3), (53, 4), (54, 5), (55, 6), (56, 7), (57, 8), (58, 9), (59, 10), (60, 11), (61, 12), (62, 13), (63, 14)]]
          [fun v w => ∃ g, v = .slice (some ⟨g, 0, none⟩) 5 5 ∧ w.heap[g]? = some (.cells tabC 3), Is (.int .i64 n), Is (.int .i64 (k5 : Int)), fun v w => ∃ g, v = .pointer (some ⟨g, k5, none⟩) ∧ w.heap[g]? = some (.cells tabC 3), Is (.int .i64 (kindF k5)), Is (.int .i64 n), Is (.int .i64 q), Is (.int .i64 (k4 : Int)), Is (.int .i64 (shlF k4)), Is (.int .i64 n), Is (.int .i64 a), Is (.int .i64 am), Is (.int .i64 rr), Is (.int .u64 rr), Is (.agg #[.int .i64 (kindF k5), .int .i64 (shlF k4), .int .u64 rr])]
          (by kernel_rfl) Grew.trans Grew.refl (Grew.refl _).drew (by kernel_rfl) ⟨tab_st, is_st, is_st, tabp_st, is_st, is_st, is_st, is_st, is_st, is_st, is_st, is_st, is_st, is_st, is_st, trivial⟩ rfl ⟨?_, ?_, ?_, ?_, ?_, ?_, ?_, ?_, ?_, ?_, ?_, ?_, ?_, ?_, ?_, trivial⟩ ?_ rfl
        · intro y w2 hG hD K hK
          simp only [fillL, Act.put, List.setIfInBounds_toArray, List.set_cons_zero, List.set_cons_succ, List.getD_cons_zero, List.getD_cons_succ, Is] at hK ⊢
          refine ite_yes (by rfl) ?_
          go_simp
          exact hK _ _ _ rfl ((Grew.refl _).alloc _) ⟨_, rfl, heap_alloc_new _ _⟩
        · intro y w2 hG hD K hK
          simp only [fillL, Act.put, List.setIfInBounds_toArray, List.set_cons_zero, List.set_cons_succ, List.getD_cons_zero, List.getD_cons_succ, Is] at hK ⊢
          refine ite_yes (by rfl) ?_
          go_simp
          exact hK _ _ _ rfl (Grew.refl _) rfl
        · intro y w2 hG hD K hK
          simp only [depsH, List.getD_cons_zero, List.getD_cons_succ, Is, and_true] at hD
          have h1 := hD
          clear hD
          simp only [fillL, Act.put, List.setIfInBounds_toArray, List.set_cons_zero, List.set_cons_succ, List.getD_cons_zero, List.getD_cons_succ, Is] at hK ⊢
          rw [h1] at hK ⊢
          clear h1
          refine ite_yes (by rfl) ?_
          go_simp
          exact hK _ _ _ rfl (Grew.refl _) rfl
        · intro y w2 hG hD K hK
          simp only [depsH, List.getD_cons_zero, List.getD_cons_succ, Is, and_true] at hD
          have h0 := hD.1
          have h2 := hD.2
          clear hD
          simp only [fillL, Act.put, List.setIfInBounds_toArray, List.set_cons_zero, List.set_cons_succ, List.getD_cons_zero, List.getD_cons_succ, Is] at hK ⊢
          rw [h2] at hK ⊢
          clear h2
          refine ite_yes (by rfl) ?_
          refine Exists.elim h0 fun g h => ?_
          have hs := h.1
          have hh := h.2
          clear h h0
          rw [hs] at hK ⊢
          go_simp
          exact hK _ _ _ rfl (Grew.refl _) ⟨g, rfl, hh⟩
        · intro y w2 hG hD K hK
          simp only [depsH, List.getD_cons_zero, List.getD_cons_succ, Is, and_true] at hD
          have h3 := hD
          clear hD
          simp only [fillL, Act.put, List.setIfInBounds_toArray, List.set_cons_zero, List.set_cons_succ, List.getD_cons_zero, List.getD_cons_succ, Is] at hK ⊢
          refine ite_yes (by rfl) ?_
          refine Exists.elim h3 fun g h => ?_
          have hs := h.1
          have hc := row_cell h.2 k5 _ (tab_cell k5 l5)
          clear h h3
          rw [hs] at hK ⊢
          go_simp
          exact hK _ _ _ rfl (Grew.refl _) rfl
        · intro y w2 hG hD K hK
          simp only [fillL, Act.put, List.setIfInBounds_toArray, List.set_cons_zero, List.set_cons_succ, List.getD_cons_zero, List.getD_cons_succ, Is] at hK ⊢
          refine ite_yes (by rfl) ?_
          go_simp
          exact hK _ _ _ rfl (Grew.refl _) rfl
        · intro y w2 hG hD K hK
          simp only [depsH, List.getD_cons_zero, List.getD_cons_succ, Is, and_true] at hD
          have h5 := hD
          clear hD
          simp only [fillL, Act.put, List.setIfInBounds_toArray, List.set_cons_zero, List.set_cons_succ, List.getD_cons_zero, List.getD_cons_succ, Is] at hK ⊢
          rw [h5] at hK ⊢
          clear h5
          refine ite_yes (by rfl) ?_
          go_simp
          exact hK _ _ _ rfl (Grew.refl _) rfl
        · intro y w2 hG hD K hK
          simp only [depsH, List.getD_cons_zero, List.getD_cons_succ, Is, and_true] at hD
          have h6 := hD
          clear hD
          simp only [fillL, Act.put, List.setIfInBounds_toArray, List.set_cons_zero, List.set_cons_succ, List.getD_cons_zero, List.getD_cons_succ, Is] at hK ⊢
          rw [h6] at hK ⊢
          clear h6
          refine ite_yes (by rfl) ?_
          go_simp
          exact hK _ _ _ rfl (Grew.refl _) rfl
        · intro y w2 hG hD K hK
          simp only [depsH, List.getD_cons_zero, List.getD_cons_succ, Is, and_true] at hD
          have h7 := hD
          clear hD
          simp only [fillL, Act.put, List.setIfInBounds_toArray, List.set_cons_zero, List.set_cons_succ, List.getD_cons_zero, List.getD_cons_succ, Is] at hK ⊢
          rw [h7] at hK ⊢
          clear h7
          refine ite_yes (by rfl) ?_
          go_simp
          exact hK _ _ _ rfl (Grew.refl _) (congrArg (Value.int _) (shl_small k4 l4))
        · intro y w2 hG hD K hK
          simp only [fillL, Act.put, List.setIfInBounds_toArray, List.set_cons_zero, List.set_cons_succ, List.getD_cons_zero, List.getD_cons_succ, Is] at hK ⊢
          refine ite_yes (by rfl) ?_
          go_simp
          exact hK _ _ _ rfl (Grew.refl _) rfl
        · intro y w2 hG hD K hK
          simp only [fillL, Act.put, List.setIfInBounds_toArray, List.set_cons_zero, List.set_cons_succ, List.getD_cons_zero, List.getD_cons_succ, Is] at hK ⊢
          refine ite_yes (by rfl) ?_
          go_simp
          exact hK _ _ _ rfl (Grew.refl _) rfl
        · intro y w2 hG hD K hK
          simp only [depsH, List.getD_cons_zero, List.getD_cons_succ, Is, and_true] at hD
          have h10 := hD
          clear hD
          simp only [fillL, Act.put, List.setIfInBounds_toArray, List.set_cons_zero, List.set_cons_succ, List.getD_cons_zero, List.getD_cons_succ, Is] at hK ⊢
          rw [h10] at hK ⊢
          clear h10
          refine ite_yes (by rfl) ?_
          go_simp
          exact hK _ _ _ rfl (Grew.refl _) (congrArg (Value.int _) HAM.out)
        · intro y w2 hG hD K hK
          simp only [depsH, List.getD_cons_zero, List.getD_cons_succ, Is, and_true] at hD
          have h9 := hD.1
          have h11 := hD.2
          clear hD
          simp only [fillL, Act.put, List.setIfInBounds_toArray, List.set_cons_zero, List.set_cons_succ, List.getD_cons_zero, List.getD_cons_succ, Is] at hK ⊢
          rw [h9, h11] at hK ⊢
          clear h9 h11
          refine ite_yes (by rfl) ?_
          go_simp
          exact hK _ _ _ rfl (Grew.refl _) rfl
        · intro y w2 hG hD K hK
          simp only [depsH, List.getD_cons_zero, List.getD_cons_succ, Is, and_true] at hD
          have h12 := hD
          clear hD
          simp only [fillL, Act.put, List.setIfInBounds_toArray, List.set_cons_zero, List.set_cons_succ, List.getD_cons_zero, List.getD_cons_succ, Is] at hK ⊢
          rw [h12] at hK ⊢
          clear h12
          refine ite_yes (by rfl) ?_
          go_simp
          exact hK _ _ _ rfl (Grew.refl _) rfl
        · intro y w2 hG hD K hK
          simp only [depsH, List.getD_cons_zero, List.getD_cons_succ, Is, and_true] at hD
          have h4 := hD.1
          have h8 := hD.2.1
          have h13 := hD.2.2
          clear hD
          simp only [fillL, Act.put, List.setIfInBounds_toArray, List.set_cons_zero, List.set_cons_succ, List.getD_cons_zero, List.getD_cons_succ, Is] at hK ⊢
          rw [h4, h8, h13] at hK ⊢
          clear h4 h8 h13
          refine ite_yes (by rfl) ?_
          go_simp
          exact hK _ _ _ rfl (Grew.refl _) rfl
        · intro y w2 hG hF K hK
          simp only [factsH, Is, and_true, Nat.reduceAdd] at hF
          have h0 := hF.1
          have h1 := hF.2.1
          have h2 := hF.2.2.1
          have h3 := hF.2.2.2.1
          have h4 := hF.2.2.2.2.1
          have h5 := hF.2.2.2.2.2.1
          have h6 := hF.2.2.2.2.2.2.1
          have h7 := hF.2.2.2.2.2.2.2.1
          have h8 := hF.2.2.2.2.2.2.2.2.1
          have h9 := hF.2.2.2.2.2.2.2.2.2.1
          have h10 := hF.2.2.2.2.2.2.2.2.2.2.1
          have h11 := hF.2.2.2.2.2.2.2.2.2.2.2.1
          have h12 := hF.2.2.2.2.2.2.2.2.2.2.2.2.1
          have h13 := hF.2.2.2.2.2.2.2.2.2.2.2.2.2.1
          have h14 := hF.2.2.2.2.2.2.2.2.2.2.2.2.2.2
          clear hF
          simp only [lastOf]
          simp only [fillL, Act.put, List.setIfInBounds_toArray, List.set_cons_zero, List.set_cons_succ, List.getD_cons_zero, List.getD_cons_succ, Is] at hK ⊢
          rw [h1, h2, h4, h5, h6, h7, h8, h9, h10, h11, h12, h13, h14]
          clear h1 h2 h4 h5 h6 h7 h8 h9 h10 h11 h12 h13 h14
          refine ite_yes (by rfl) ?_
          have HG2 := Lib.hid (HG.out.trans hG)
          have hrow := hG.heap HROW.out
          have f0 := row_frozen hrow 0
          have f1 := row_frozen hrow 1
          have f2 := row_frozen hrow 2
          have c0 := row_cell hrow 0 _ rfl
          have c1 := row_cell hrow 1 _ rfl
          have c2 := row_cell hrow 2 _ rfl
          clear hrow hG
          go_simp
          refine hK _ _ ?_
          go_wp2
          refine bodyPost_ret (v := vV (kindF k5, shlF k4, rr)) (by simp [results, Try.results22, go_sem, c0, c1, c2, vV]) rfl ⟨by rw [HF.out], ((HG2.out.setCell (Nat.le_succ _) _).setCell (Nat.le_succ _) _).setCell (Nat.le_succ _) _⟩
    · subst k1
      clear HK
      have HE : Hid (widF n = 1) := by show _ = _; unfold widF; repeat' split; all_goals omega
      go_wp2_with fail
      refine (bringL_any x0 6 _ (by omega) (by omega)).mono ?_
      rintro r w1 ⟨rfl, rfl⟩
      have m0 : 0 ≤ x0 % 6 := by omega
      have m1 : x0 % 6 < 6 := by omega
      generalize x0 % 6 = m at *
      by_cases e0 : m = 0
      · subst e0
        have HF : Hid (R = (1, 1, n)) := HR.out.trans (by simp [valN, HE.out])
        have hmw : IntKind.u64.wrap n = n := by rw [IntKind.wrap_u64]; omega
        go_wp2_with fail
        refine (num17_any n 1 _).mono ?_
        rintro r w2 ⟨rfl, hg⟩
        have HG2 := Lib.hid (HG.out.trans hg)
        have hrow := hg.heap HROW.out
        have f0 := row_frozen hrow 0
        have f1 := row_frozen hrow 1
        have f2 := row_frozen hrow 2
        have c0 := row_cell hrow 0 _ rfl
        have c1 := row_cell hrow 1 _ rfl
        have c2 := row_cell hrow 2 _ rfl
        clear hrow
        clear hg
        go_wp2
        refine bodyPost_ret (v := vV (1, 1, n)) (by simp [results, Try.results22, go_sem, c0, c1, c2, vV]) rfl ⟨by rw [HF.out], ((HG2.out.setCell (Nat.le_succ _) _).setCell (Nat.le_succ _) _).setCell (Nat.le_succ _) _⟩
      by_cases e1 : m = 1
      · subst e1
        have HF : Hid (R = (1, 1, IntKind.u64.wrap (-n))) := HR.out.trans (by simp [valN, HE.out])
        go_wp2_with fail
        refine (num17_any (-n) 1 _).mono ?_
        rintro r w2 ⟨rfl, hg⟩
        have HG2 := Lib.hid (HG.out.trans hg)
        have hrow := hg.heap HROW.out
        have f0 := row_frozen hrow 0
        have f1 := row_frozen hrow 1
        have f2 := row_frozen hrow 2
        have c0 := row_cell hrow 0 _ rfl
        have c1 := row_cell hrow 1 _ rfl
        have c2 := row_cell hrow 2 _ rfl
        clear hrow
        clear hg
        go_wp2
        refine bodyPost_ret (v := vV (1, 1, IntKind.u64.wrap (-n))) (by simp [results, Try.results22, go_sem, c0, c1, c2, vV]) rfl ⟨by rw [HF.out], ((HG2.out.setCell (Nat.le_succ _) _).setCell (Nat.le_succ _) _).setCell (Nat.le_succ _) _⟩
      by_cases e2 : m = 2
      · subst e2
        have HF : Hid (R = (2, 1, n)) := HR.out.trans (by simp [valN, HE.out])
        have hmw : IntKind.u64.wrap n = n := by rw [IntKind.wrap_u64]; omega
        go_wp2_with fail
        refine (uns17_any n 1 _).mono ?_
        rintro r w2 ⟨rfl, hg⟩
        have HG2 := Lib.hid (HG.out.trans hg)
        have hrow := hg.heap HROW.out
        have f0 := row_frozen hrow 0
        have f1 := row_frozen hrow 1
        have f2 := row_frozen hrow 2
        have c0 := row_cell hrow 0 _ rfl
        have c1 := row_cell hrow 1 _ rfl
        have c2 := row_cell hrow 2 _ rfl
        clear hrow
        clear hg
        go_wp2
        refine bodyPost_ret (v := vV (2, 1, n)) (by simp [results, Try.results22, go_sem, c0, c1, c2, vV]) rfl ⟨by rw [HF.out], ((HG2.out.setCell (Nat.le_succ _) _).setCell (Nat.le_succ _) _).setCell (Nat.le_succ _) _⟩
      by_cases e3 : m = 3
      · subst e3
        have HF : Hid (R = (26, 1, n % 2)) := HR.out.trans (by simp [valN, HE.out])
        have em : n.tmod 2 = n % 2 := Int.tmod_eq_emod_of_nonneg n0
        have hm0 : 0 ≤ n % 2 := by omega
        have hm1 : n % 2 < 2 := by omega
        have hmw : IntKind.u64.wrap (n % 2) = n % 2 := by rw [IntKind.wrap_u64]; omega
        have HG2 := Lib.hid HG.out
        have hrow := HROW.out
        have f0 := row_frozen hrow 0
        have f1 := row_frozen hrow 1
        have f2 := row_frozen hrow 2
        have c0 := row_cell hrow 0 _ rfl
        have c1 := row_cell hrow 1 _ rfl
        have c2 := row_cell hrow 2 _ rfl
        clear hrow
        go_wp2
        refine bodyPost_ret (v := vV (26, 1, n % 2)) (by simp [results, Try.results22, go_sem, c0, c1, c2, vV]) rfl ⟨by rw [HF.out], ((HG2.out.setCell (Nat.le_succ _) _).setCell (Nat.le_succ _) _).setCell (Nat.le_succ _) _⟩
      have HF : Hid (R = farF n a) := HR.out.trans (by simp [valN, e0, e1, e2, e3])
      go_wp2_with fail
      have b0 : (m == 0) = false := by simpa using e0
      have b1 : (m == 1) = false := by simpa using e1
      have b2 : (m == 2) = false := by simpa using e2
      have b3 : (m == 3) = false := by simpa using e3
      simp only [b0, b1, b2, b3]
      clear b0 b1 b2 b3 e0 e1 e2 e3 m0 m1
      clear HR
      obtain ⟨k5, hk5⟩ : ∃ k : Nat, n % 5 = k := ⟨(n % 5).toNat, by omega⟩
      obtain ⟨k4, hk4⟩ : ∃ k : Nat, n / 5 % 4 = k := ⟨(n / 5 % 4).toNat, by omega⟩
      have l5 : k5 < 5 := by omega
      have l4 : k4 < 4 := by omega
      obtain ⟨am, ham⟩ : ∃ m : Int, max a 1 = m := ⟨_, rfl⟩
      have am1 : 1 ≤ am := by omega
      have am2 : am ≤ 4611686018427387904 := by omega
      obtain ⟨q, hq⟩ : ∃ q : Int, n / 5 = q := ⟨_, rfl⟩
      rw [hq] at hk4
      have q0 : 0 ≤ q := by omega
      have q1 : q ≤ 1099511627776 := by omega
      obtain ⟨rr, hrr⟩ : ∃ r : Int, n % am = r := ⟨_, rfl⟩
      have ham0 : ¬ am = 0 := by omega
      replace HF : Hid (R = (kindF k5, shlF k4, rr)) := HF.out.trans (by unfold farF; rw [hk5, hq, hk4, ham, hrr])
      have t5 : n.tmod 5 = (k5 : Int) := by rw [Int.tmod_eq_emod_of_nonneg n0]; exact hk5
      have d5 : n.tdiv 5 = q := by rw [Int.tdiv_eq_ediv_of_nonneg n0]; exact hq
      have t4 : q.tmod 4 = (k4 : Int) := by rw [Int.tmod_eq_emod_of_nonneg q0]; exact hk4
      have tm : n.tmod am = rr := by rw [Int.tmod_eq_emod_of_nonneg n0]; exact hrr
      have r0 : 0 ≤ rr := by rw [← hrr]; exact Int.emod_nonneg _ (by omega)
      have r1 : rr < am := by rw [← hrr]; exact Int.emod_lt_of_pos _ (by omega)
      have HAM := Lib.hid ham
      have qw : IntKind.i64.wrap q = q := by rw [IntKind.wrap_i64]; omega
      have rw1 : IntKind.u64.wrap rr = rr := by rw [IntKind.wrap_u64]; omega
      have i5 : (k5 : Int) < 5 := by omega
      clear hk5 hk4 ham hq hrr
      refine wp_region_last Grew [[], [], [1], [0, 2], [3], [], [5], [6], [7], [], [], [10], [9, 11], [12], [4, 8, 13], [14]] [[(50, 1), (51, 2), (53, 4), (54, 5), (55, 6), (56, 7), (57, 8), (58, 9), (59, 10), (60, 11), (61, 12), (62, 13), (63, 14)], [(49, 0), (52, 3), (53, 4), (54, 5), (55, 6), (56, 7), (57, 8), (58, 9), (59, 10), (60, 11), (61, 12), (62, 13), (63, 14)], [(49, 0), (50, 1), (53, 4), (54, 5), (55, 6), (56, 7), (57, 8), (58, 9), (59, 10), (60, 11), (61, 12), (62, 13), (63, 14)], [(49, 0), (50, 1), (51, 2), (54, 5), (55, 6), (56, 7), (57, 8), (58, 9), (59, 10), (60, 11), (61, 12), (62, 13), (63, 14)], [(49, 0), (50, 1), (51, 2), (52, 3), (54, 5), (55, 6), (56, 7), (57, 8), (58, 9), (59, 10), (60, 11), (61, 12), (62, 13)], [(49, 0), (50, 1), (51, 2), (52, 3), (53, 4), (56, 7), (57, 8), (58, 9), (59, 10), (60, 11), (61, 12), (62, 13), (63, 14)], [(49, 0), (50, 1), (51, 2), (52, 3), (53, 4), (54, 5), (57, 8), (58, 9), (59, 10), (60, 11), (61, 12), (62, 13), (63, 14)], [(49, 0), (50, 1), (51, 2), (52, 3), (53, 4), (54, 5), (55, 6), (58, 9), (59, 10), (60, 11), (61, 12), (62, 13), (63, 14)], [(49, 0), (50, 1), (51, 2), (52, 3), (53, 4), (54, 5), (55, 6), (56, 7), (58, 9), (59, 10), (60, 11), (61, 12), (62, 13)], [(49, 0), (50, 1), (51, 2), (52, 3), (53, 4), (54, 5), (55, 6), (56, 7), (57, 8), (59, 10), (60, 11), (62, 13), (63, 14)], [(49, 0), (50, 1), (51, 2), (52, 3), (53, 4), (54, 5), (55, 6), (56, 7), (57, 8), (58, 9), (61, 12), (62, 13), (63, 14)], [(49, 0), (50, 1), (51, 2), (52, 3), (53, 4), (54, 5), (55, 6), (56, 7), (57, 8), (58, 9), (59, 10), (62, 13), (63, 14)], [(49, 0), (50, 1), (51, 2), (52, 3), (53, 4), (54, 5), (55, 6), (56, 7), (57, 8), (58, 9), (59, 10), (60, 11), (63, 14)], [(49, 0), (50, 1), (51, 2), (52, 3), (53, 4), (54, 5), (55, 6), (56, 7), (57, 8), (58, 9), (59, 10), (60, 11), (61, 12)], [(49, 0), (50, 1), (51, 2), (52, 3), (53, 4), (54, 5), (55, 6), (56, 7), (57, 8), (58, 9), (59, 10), (60, 11), (61, 12), (62, 13)], [(49, 0), (50, 1), (51, 2), (52, 3), (53, 4), (54, 5), (55, 6), (56, 7), (57, 8), (58, 9), (59, 10), (60, 11), (61, 12), (62, 13), (63, 14)]]
        [fun v w => ∃ g, v = .slice (some ⟨g, 0, none⟩) 5 5 ∧ w.heap[g]? = some (.cells tabC 3), Is (.int .i64 n), Is (.int .i64 (k5 : Int)), fun v w => ∃ g, v = .pointer (some ⟨g, k5, none⟩) ∧ w.heap[g]? = some (.cells tabC 3), Is (.int .i64 (kindF k5)), Is (.int .i64 n), Is (.int .i64 q), Is (.int .i64 (k4 : Int)), Is (.int .i64 (shlF k4)), Is (.int .i64 n), Is (.int .i64 a), Is (.int .i64 am), Is (.int .i64 rr), Is (.int .u64 rr), Is (.agg #[.int .i64 (kindF k5), .int .i64 (shlF k4), .int .u64 rr])]
        (by kernel_rfl) Grew.trans Grew.refl (Grew.refl _).drew (by kernel_rfl) ⟨tab_st, is_st, is_st, tabp_st, is_st, is_st, is_st, is_st, is_st, is_st, is_st, is_st, is_st, is_st, is_st, trivial⟩ rfl ⟨?_, ?_, ?_, ?_, ?_, ?_, ?_, ?_, ?_, ?_, ?_, ?_, ?_, ?_, ?_, trivial⟩ ?_ rfl
      · intro y w2 hG hD K hK
        simp only [fillL, Act.put, List.setIfInBounds_toArray, List.set_cons_zero, List.set_cons_succ, List.getD_cons_zero, List.getD_cons_succ, Is] at hK ⊢
        refine ite_yes (by rfl) ?_
        go_simp
        exact hK _ _ _ rfl ((Grew.refl _).alloc _) ⟨_, rfl, heap_alloc_new _ _⟩
      · intro y w2 hG hD K hK
        simp only [fillL, Act.put, List.setIfInBounds_toArray, List.set_cons_zero, List.set_cons_succ, List.getD_cons_zero, List.getD_cons_succ, Is] at hK ⊢
        refine ite_yes (by rfl) ?_
        go_simp
        exact hK _ _ _ rfl (Grew.refl _) rfl
      · intro y w2 hG hD K hK
        simp only [depsH, List.getD_cons_zero, List.getD_cons_succ, Is, and_true] at hD
        have h1 := hD
        clear hD
        simp only [fillL, Act.put, List.setIfInBounds_toArray, List.set_cons_zero, List.set_cons_succ, List.getD_cons_zero, List.getD_cons_succ, Is] at hK ⊢
        rw [h1] at hK ⊢
        clear h1
        refine ite_yes (by rfl) ?_
        go_simp
        exact hK _ _ _ rfl (Grew.refl _) rfl
      · intro y w2 hG hD K hK
        simp only [depsH, List.getD_cons_zero, List.getD_cons_succ, Is, and_true] at hD
        have h0 := hD.1
        have h2 := hD.2
        clear hD
        simp only [fillL, Act.put, List.setIfInBounds_toArray, List.set_cons_zero, List.set_cons_succ, List.getD_cons_zero, List.getD_cons_succ, Is] at hK ⊢
        rw [h2] at hK ⊢
        clear h2
        refine ite_yes (by rfl) ?_
        refine Exists.elim h0 fun g h => ?_
        have hs := h.1
        have hh := h.2
        clear h h0
        rw [hs] at hK ⊢
        go_simp
        exact hK _ _ _ rfl (Grew.refl _) ⟨g, rfl, hh⟩
      · intro y w2 hG hD K hK
        simp only [depsH, List.getD_cons_zero, List.getD_cons_succ, Is, and_true] at hD
        have h3 := hD
        clear hD
        simp only [fillL, Act.put, List.setIfInBounds_toArray, List.set_cons_zero, List.set_cons_succ, List.getD_cons_zero, List.getD_cons_succ, Is] at hK ⊢
        refine ite_yes (by rfl) ?_
        refine Exists.elim h3 fun g h => ?_
        have hs := h.1
        have hc := row_cell h.2 k5 _ (tab_cell k5 l5)
        clear h h3
        rw [hs] at hK ⊢
        go_simp
        exact hK _ _ _ rfl (Grew.refl _) rfl
      · intro y w2 hG hD K hK
        simp only [fillL, Act.put, List.setIfInBounds_toArray, List.set_cons_zero, List.set_cons_succ, List.getD_cons_zero, List.getD_cons_succ, Is] at hK ⊢
        refine ite_yes (by rfl) ?_
        go_simp
        exact hK _ _ _ rfl (Grew.refl _) rfl
      · intro y w2 hG hD K hK
        simp only [depsH, List.getD_cons_zero, List.getD_cons_succ, Is, and_true] at hD
        have h5 := hD
        clear hD
        simp only [fillL, Act.put, List.setIfInBounds_toArray, List.set_cons_zero, List.set_cons_succ, List.getD_cons_zero, List.getD_cons_succ, Is] at hK ⊢
        rw [h5] at hK ⊢
        clear h5
        refine ite_yes (by rfl) ?_
        go_simp
        exact hK _ _ _ rfl (Grew.refl _) rfl
      · intro y w2 hG hD K hK
        simp only [depsH, List.getD_cons_zero, List.getD_cons_succ, Is, and_true] at hD
        have h6 := hD
        clear hD
        simp only [fillL, Act.put, List.setIfInBounds_toArray, List.set_cons_zero, List.set_cons_succ, List.getD_cons_zero, List.getD_cons_succ, Is] at hK ⊢
        rw [h6] at hK ⊢
        clear h6
        refine ite_yes (by rfl) ?_
        go_simp
        exact hK _ _ _ rfl (Grew.refl _) rfl
      · intro y w2 hG hD K hK
        simp only [depsH, List.getD_cons_zero, List.getD_cons_succ, Is, and_true] at hD
        have h7 := hD
        clear hD
        simp only [fillL, Act.put, List.setIfInBounds_toArray, List.set_cons_zero, List.set_cons_succ, List.getD_cons_zero, List.getD_cons_succ, Is] at hK ⊢
        rw [h7] at hK ⊢
        clear h7
        refine ite_yes (by rfl) ?_
        go_simp
        exact hK _ _ _ rfl (Grew.refl _) (congrArg (Value.int _) (shl_small k4 l4))
      · intro y w2 hG hD K hK
        simp only [fillL, Act.put, List.setIfInBounds_toArray, List.set_cons_zero, List.set_cons_succ, List.getD_cons_zero, List.getD_cons_succ, Is] at hK ⊢
        refine ite_yes (by rfl) ?_
        go_simp
        exact hK _ _ _ rfl (Grew.refl _) rfl
      · intro y w2 hG hD K hK
        simp only [fillL, Act.put, List.setIfInBounds_toArray, List.set_cons_zero, List.set_cons_succ, List.getD_cons_zero, List.getD_cons_succ, Is] at hK ⊢
        refine ite_yes (by rfl) ?_
        go_simp
        exact hK _ _ _ rfl (Grew.refl _) rfl
      · intro y w2 hG hD K hK
        simp only [depsH, List.getD_cons_zero, List.getD_cons_succ, Is, and_true] at hD
        have h10 := hD
        clear hD
        simp only [fillL, Act.put, List.setIfInBounds_toArray, List.set_cons_zero, List.set_cons_succ, List.getD_cons_zero, List.getD_cons_succ, Is] at hK ⊢
        rw [h10] at hK ⊢
        clear h10
        refine ite_yes (by rfl) ?_
        go_simp
        exact hK _ _ _ rfl (Grew.refl _) (congrArg (Value.int _) HAM.out)
      · intro y w2 hG hD K hK
        simp only [depsH, List.getD_cons_zero, List.getD_cons_succ, Is, and_true] at hD
        have h9 := hD.1
        have h11 := hD.2
        clear hD
        simp only [fillL, Act.put, List.setIfInBounds_toArray, List.set_cons_zero, List.set_cons_succ, List.getD_cons_zero, List.getD_cons_succ, Is] at hK ⊢
        rw [h9, h11] at hK ⊢
        clear h9 h11
        refine ite_yes (by rfl) ?_
        go_simp
        exact hK _ _ _ rfl (Grew.refl _) rfl
      · intro y w2 hG hD K hK
        simp only [depsH, List.getD_cons_zero, List.getD_cons_succ, Is, and_true] at hD
        have h12 := hD
        clear hD
        simp only [fillL, Act.put, List.setIfInBounds_toArray, List.set_cons_zero, List.set_cons_succ, List.getD_cons_zero, List.getD_cons_succ, Is] at hK ⊢
        rw [h12] at hK ⊢
        clear h12
        refine ite_yes (by rfl) ?_
        go_simp
        exact hK _ _ _ rfl (Grew.refl _) rfl
      · intro y w2 hG hD K hK
        simp only [depsH, List.getD_cons_zero, List.getD_cons_succ, Is, and_true] at hD
        have h4 := hD.1
        have h8 := hD.2.1
        have h13 := hD.2.2
        clear hD
        simp only [fillL, Act.put, List.setIfInBounds_toArray, List.set_cons_zero, List.set_cons_succ, List.getD_cons_zero, List.getD_cons_succ, Is] at hK ⊢
        rw [h4, h8, h13] at hK ⊢
        clear h4 h8 h13
        refine ite_yes (by rfl) ?_
        go_simp
        exact hK _ _ _ rfl (Grew.refl _) rfl
      · intro y w2 hG hF K hK
        simp only [factsH, Is, and_true, Nat.reduceAdd] at hF
        have h0 := hF.1
        have h1 := hF.2.1
        have h2 := hF.2.2.1
        have h3 := hF.2.2.2.1
        have h4 := hF.2.2.2.2.1
        have h5 := hF.2.2.2.2.2.1
        have h6 := hF.2.2.2.2.2.2.1
        have h7 := hF.2.2.2.2.2.2.2.1
        have h8 := hF.2.2.2.2.2.2.2.2.1
        have h9 := hF.2.2.2.2.2.2.2.2.2.1
        have h10 := hF.2.2.2.2.2.2.2.2.2.2.1
        have h11 := hF.2.2.2.2.2.2.2.2.2.2.2.1
        have h12 := hF.2.2.2.2.2.2.2.2.2.2.2.2.1
        have h13 := hF.2.2.2.2.2.2.2.2.2.2.2.2.2.1
        have h14 := hF.2.2.2.2.2.2.2.2.2.2.2.2.2.2
        clear hF
        simp only [lastOf]
        simp only [fillL, Act.put, List.setIfInBounds_toArray, List.set_cons_zero, List.set_cons_succ, List.getD_cons_zero, List.getD_cons_succ, Is] at hK ⊢
        rw [h1, h2, h4, h5, h6, h7, h8, h9, h10, h11, h12, h13, h14]
        clear h1 h2 h4 h5 h6 h7 h8 h9 h10 h11 h12 h13 h14
        refine ite_yes (by rfl) ?_
        have HG2 := Lib.hid (HG.out.trans hG)
        have hrow := hG.heap HROW.out
        have f0 := row_frozen hrow 0
        have f1 := row_frozen hrow 1
        have f2 := row_frozen hrow 2
        have c0 := row_cell hrow 0 _ rfl
        have c1 := row_cell hrow 1 _ rfl
        have c2 := row_cell hrow 2 _ rfl
        clear hrow hG
        go_simp
        refine hK _ _ ?_
        go_wp2
        refine bodyPost_ret (v := vV (kindF k5, shlF k4, rr)) (by simp [results, Try.results22, go_sem, c0, c1, c2, vV]) rfl ⟨by rw [HF.out], ((HG2.out.setCell (Nat.le_succ _) _).setCell (Nat.le_succ _) _).setCell (Nat.le_succ _) _⟩
end Go.Proofs.Ytaoflhddcbmacaa

/-
  Vectors: the law's values.
-/
namespace Go.Proofs.Ytaoflhddcbmacaa
open Go Go.ChangeShapes Go.WideShapes Go.ChangeAt Go.RowKit Go.Joins
open Go.Proofs.Ytaoflhddcbmacaa.Ft (V3 vV okV ValsAt inlineB legalB packF codeF typedF allF)
set_option linter.unusedVariables false
set_option linter.unusedSimpArgs false

def cellsV (v : V3) : List Value := [.int .i64 v.1, .int .i64 v.2.1, .int .u64 v.2.2]
def valCells (l : List V3) : List Value := l.flatMap cellsV
theorem length_valCells (l : List V3) : (valCells l).length = l.length * 3 := by
  induction l with
  | nil => rfl
  | cons v r ih => 
    have : valCells (v :: r) = cellsV v ++ valCells r := rfl
    rw [this, List.length_append, ih, List.length_cons]
    show 3 + _ = _
    omega
theorem valCells_append (l m : List V3) : valCells (l ++ m) = valCells l ++ valCells m := by simp [valCells]
theorem valCells_get (l : List V3) (i : Nat) (v : V3) (h : l[i]? = some v) : (valCells l)[i * 3]? = some (.int .i64 v.1) ∧ (valCells l)[i * 3 + 1]? = some (.int .i64 v.2.1) ∧ (valCells l)[i * 3 + 2]? = some (.int .u64 v.2.2) := by
  induction l generalizing i with
  | nil => simp at h
  | cons u r ih =>
    have e : valCells (u :: r) = .int .i64 u.1 :: .int .i64 u.2.1 :: .int .u64 u.2.2 :: valCells r := rfl
    rw [e]
    cases i with
    | zero => simp at h; subst h; simp
    | succ i =>
      have h2 := ih i (by simpa using h)
      rw [show (i + 1) * 3 = i * 3 + 1 + 1 + 1 by omega, show i * 3 + 1 + 1 + 1 + 1 = (i * 3 + 1) + 1 + 1 + 1 by omega, show i * 3 + 1 + 1 + 1 + 2 = (i * 3 + 2) + 1 + 1 + 1 by omega]
      simpa only [List.getElem?_cons_succ] using h2
/-- A row of values of one's own. -/
def OwnVals (w : World) (B : Nat) (v : Value) (l : List V3) : Prop := w.ownsRow B 28 3 v l.length (valCells l)
theorem OwnVals.vals {w : World} {B : Nat} {v : Value} {l : List V3} (h : OwnVals w B v l) : ValsAt w v l := by
  have h0 := h
  obtain ⟨_, h2⟩ := h
  rcases h2 with ⟨rfl, hn⟩ | ⟨g, cap, cur, rfl, _, _, hn, _⟩
  · have : l = [] := List.length_eq_zero_iff.1 hn
    subst this
    exact ⟨none, 0, rfl, fun i x hx => by simp at hx⟩
  · refine ⟨some ⟨g, 0, none⟩, cap, rfl, fun i x hx => ⟨g, 0, rfl, ?_⟩⟩
    have hi := (List.getElem?_eq_some_iff.1 hx).1
    obtain ⟨e0, e1, e2⟩ := valCells_get l i x hx
    have hc := World.ownsRow.cells h0 rfl
    have a : ∀ j, (⟨g, 0, none⟩ : Addr).add j = ⟨g, 0 + j, none⟩ := by
      intro j
      unfold Addr.add
      split
      · rename_i h; subst h; rfl
      · rfl
    have c0 := hc _ _ e0
    have c1 := hc _ _ e1
    have c2 := hc _ _ e2
    rw [a] at c0 c1 c2
    exact ⟨c0, c1, c2⟩
/-- A slice of pairs of numbers. -/
def PairsAt (w : World) (v : Value) (l : List (Int × Int)) : Prop :=
  ∃ a c, v = .slice a l.length c ∧ ∀ (i : Nat) (x : Int × Int), l[i]? = some x → ∃ b off, a = some ⟨b, off, none⟩ ∧ w.cell? ⟨b, off + i * 2, none⟩ = some (.int .i64 x.1) ∧ w.cell? ⟨b, off + i * 2 + 1, none⟩ = some (.int .i64 x.2)
theorem PairsAt.grew {w w' : World} {v : Value} {l : List (Int × Int)} (h : PairsAt w v l) (hg : Grew w w') : PairsAt w' v l := by
  obtain ⟨a, c, h1, h2⟩ := h
  refine ⟨a, c, h1, fun i x hx => ?_⟩
  obtain ⟨b, off, e, c0, c1⟩ := h2 i x hx
  exact ⟨b, off, e, hg.cell c0, hg.cell c1⟩
def valsF (l : List (Int × Int)) (a : Int) : List V3 := (l.take 300).map (valF · a)
theorem valsF_length (l : List (Int × Int)) (a : Int) : (valsF l a).length = min 300 l.length := by simp [valsF]
theorem valsF_all (l : List (Int × Int)) (a : Int) : valsF (l.take 300) a = valsF l a := by simp [valsF, List.take_take]
theorem valsF_snoc {l : List (Int × Int)} {k : Nat} {x : Int × Int} (h : l[k]? = some x) (hk : k < 300) (a : Int) : valsF (l.take k) a ++ [valF x a] = valsF (l.take (k + 1)) a := by
  obtain ⟨hl, hx⟩ := List.getElem?_eq_some_iff.1 h
  unfold valsF
  rw [List.take_take, List.take_take, Nat.min_eq_right (by omega : k ≤ 300), Nat.min_eq_right (by omega : k + 1 ≤ 300), List.take_succ_eq_append_getElem hl, List.map_append, hx]
  rfl
theorem Try.infoVal : (Try.prog.info? 28).map (fun i => (i.zero, i.size, i.bytes)) = some (some (.agg #[.int .i64 0, .int .i64 0, .int .u64 0]), 3, 24) := by kernel_rfl
theorem val_parts : ∃ i0, Try.prog.info? 28 = some i0 ∧ i0.zero = some (.agg #[.int .i64 0, .int .i64 0, .int .u64 0]) ∧ i0.size = 3 ∧ i0.bytes = 24 := by
  have h := Try.infoVal
  cases hq : Try.prog.info? 28 with
  | none => simp [hq] at h
  | some i => simp [hq] at h; exact ⟨i, rfl, h.1, h.2.1, h.2.2⟩
theorem vals_cells {w : World} {ad : Addr} {cap : Nat} {l : List V3} (h : ValsAt w (.slice (some ad) l.length cap) l) : ∀ j u, (valCells l)[j]? = some u → w.cell? (ad.add j) = some u := by
  obtain ⟨a0, c0, e, hc⟩ := h
  cases e
  intro j u hj
  have hjl : j < l.length * 3 := by rw [← length_valCells]; exact (List.getElem?_eq_some_iff.1 hj).1
  have hd : j / 3 < l.length := by omega
  have hq : j = j / 3 * 3 ∨ j = j / 3 * 3 + 1 ∨ j = j / 3 * 3 + 2 := by omega
  obtain ⟨x, hx⟩ : ∃ x, l[j / 3]? = some x := ⟨_, List.getElem?_eq_getElem hd⟩
  obtain ⟨b, off, e, d0, d1, d2⟩ := hc (j / 3) x hx
  cases e
  obtain ⟨e0, e1, e2⟩ := valCells_get l (j / 3) x hx
  generalize j / 3 = q at *
  have : (⟨b, off, none⟩ : Addr).add j = ⟨b, off + j, none⟩ := by
    unfold Addr.add
    split
    · rename_i h; subst h; rfl
    · rfl
  rw [this]
  rcases hq with h | h | h
  · rw [h] at hj; rw [e0] at hj; cases hj; rw [h]; exact d0
  · rw [h] at hj; rw [e1] at hj; cases hj; rw [h]; exact d1
  · rw [h] at hj; rw [e2] at hj; cases hj; rw [h]; exact d2
theorem valCells_one (l : List V3) : ∀ u ∈ valCells l, u.oneCell' = true := by
  intro u hu
  simp only [valCells, List.mem_flatMap, cellsV, List.mem_cons, List.not_mem_nil, or_false] at hu
  obtain ⟨x, _, rfl | rfl | rfl⟩ := hu <;> rfl
theorem wpList_appendV {ops : Array Oper} {rest : List Oper} {o : Oper} {a : Act} {w : World} {Q : Exit → Act → World → Prop} (hgd : o.guard = none) (s x : Operand)
    (ho : o.op = .call { callee := .builtin .append, args := #[s, x], argTypes := #[24, 24] }) (B : Nat) (v : Value) (l : List V3) (hs : a.eval s = v) (hown : OwnVals w B v l)
    (sv : Value) (l2 : List V3) (hx : a.eval x = sv) (hsv : ValsAt w sv l2) (hnil : ∀ c, sv = .slice none 0 c → c = 0) (hlen : l.length + l2.length ≤ 1048576) (hB : B ≤ w.heap.size)
    (h : ∀ v' w', OwnVals w' B v' (l ++ l2) → w.grownBy w' v.ownBlock → Next w v.ownBlock v'.ownBlock → wpList Try.prog ops Q rest (a.put o.dst v') w') : wpList Try.prog ops Q (o :: rest) a w := by
  obtain ⟨i0, hi, hz0, hz1, hz2⟩ := val_parts
  have hsv0 := hsv
  obtain ⟨sa, cap, rfl, hc⟩ := hsv
  cases sa with
  | none =>
    have h0 : l2 = [] := by
      cases l2 with
      | nil => rfl
      | cons y r => obtain ⟨b, off, e, _⟩ := hc 0 y rfl; cases e
    subst h0
    have := hnil cap rfl
    subst this
    refine wpList_append_own_none hgd s x 24 ho B 28 i0 3 Try.underlying24 hi v l.length _ hs hown hx ?_
    exact h v w (by rw [List.append_nil]; exact hown) ⟨rfl, rfl, rfl, Nat.le_refl _, fun _ _ _ => rfl⟩ (Next.refl _ _)
  | some ad =>
    obtain ⟨v', w', hr, h2, h3, h4⟩ := append_next (P := Try.prog) w B 24 o.type 28 i0 (.agg #[.int .i64 0, .int .i64 0, .int .u64 0]) 3 24 Try.underlying24 hi hz0 hz1 hz2 rfl (by decide) v l.length _ hown ad l2.length cap (valCells l2) (length_valCells l2) (vals_cells hsv0) (valCells_one l2) (by unfold maxLen; omega) (by omega) hB
    refine wpList_plain hgd fun _ hK => Lib.wp_append_run w s x 24 24 ho v _ hs hx v' w' hr (hK _ _ (h v' w' ?_ h3 h4))
    unfold OwnVals
    rw [List.length_append, valCells_append]
    exact h2
theorem own_grew {w w' : World} {B : Nat} {v : Value} {l : List V3} (h : OwnVals w B v l) (hg : Grew w w') : OwnVals w' B v l := Moved.owns (Moved.of_grew (S := fun _ => False) hg) h (fun _ _ h => h)
theorem vals_new (w : World) (x : V3) : ValsAt (w.alloc (.cells #[.int .i64 x.1, .int .i64 x.2.1, .int .u64 x.2.2] 28)) (.slice (some ⟨w.heap.size, 0, none⟩) 1 1) [x] := by
  have h := heap_alloc_new w (.cells #[.int .i64 x.1, .int .i64 x.2.1, .int .u64 x.2.2] 28)
  refine ⟨_, 1, rfl, fun i y hy => ?_⟩
  have hi : i = 0 := by have := (List.getElem?_eq_some_iff.1 hy).1; simp at this; omega
  subst hi
  simp at hy
  subst hy
  exact ⟨_, _, rfl, row_cell h 0 _ rfl, row_cell h 1 _ rfl, row_cell h 2 _ rfl⟩
theorem own_form {w : World} {B : Nat} {v : Value} {l : List V3} (h : OwnVals w B v l) : ∃ a c, v = .slice a l.length c ∧ (a = none → c = 0) := by
  rcases h.2 with ⟨rfl, hn⟩ | ⟨g, cap, cur, rfl, _, _, hn, _⟩
  · exact ⟨none, 0, by rw [hn], fun _ => rfl⟩
  · exact ⟨_, cap, rfl, fun h => by cases h⟩
theorem own_lt {w : World} {B : Nat} {v : Value} {l : List V3} (h : OwnVals w B v l) {ad : Addr} {n c : Nat} (e : v = .slice (some ad) n c) : ad.block < w.heap.size := by
  rcases h.2 with ⟨rfl, hn⟩ | ⟨g, cap, cur, rfl, _, hg, hn, _⟩
  · cases e
  · cases e; exact (Array.getElem?_eq_some_iff.1 hg).1
theorem own_ge {w : World} {B : Nat} {v : Value} {l : List V3} (h : OwnVals w B v l) {ad : Addr} {n c : Nat} (e : v = .slice (some ad) n c) : B ≤ ad.block := by
  rcases h.2 with ⟨rfl, hn⟩ | ⟨g, cap, cur, rfl, hb, hg, hn, _⟩
  · cases e
  · cases e; exact hb
theorem grew_own {w wr w' : World} {v : Value} {l : List V3} (h : OwnVals wr w.heap.size v l) (hg : Grew w wr) (hgr : wr.grownBy w' v.ownBlock) : Grew w w' := by
  have hgr2 : Moved (fun k => some k = v.ownBlock) wr w' := Moved.of_grown hgr
  refine ⟨hgr2.os.trans hg.os, hgr2.tape.trans hg.tape, hgr2.output.trans hg.output, Nat.le_trans hg.size hgr2.size, fun k hk => ?_⟩
  refine (hgr2.block k (Nat.lt_of_lt_of_le hk hg.size) fun e => ?_).trans (hg.block k hk)
  rcases h.2 with ⟨rfl, hn⟩ | ⟨g, cap, cur, rfl, hb, _, _⟩
  · cases e
  · have : k = g := by injection e
    omega
set_option maxRecDepth 100000 in
set_option maxHeartbeats 1000000 in
theorem values_any (a : Int) (lv : Value) (l : List (Int × Int)) (w : World) (hp : PairsAt w lv l) (h0 : 0 ≤ a) (h1 : a ≤ 4611686018427387904) (hl : l.length ≤ 9223372036854775807) : Calls Try.prog 9 #[lv, .int .i64 a] w fun r w' => ∃ v', r = .returned v' ∧ OwnVals w' w.heap.size v' (valsF l a) ∧ Grew w w' := by
  obtain ⟨ad, c, rfl, hcell⟩ := hp
  have HC := Lib.hid hcell
  clear hcell
  go_enter Try.func9, Try.ntmps9
  go_wp2_with fail
  go_loopw [5, 6] (fun v i wr => ∃ k : Nat, k ≤ l.length ∧ k ≤ 300 ∧ i = .int .i64 k ∧ Hid (OwnVals wr w.heap.size v (valsF (l.take k) a) ∧ Grew w wr)) (fun _ i _ => l.length - (intOf i).toNat)
  case atStart => exact ⟨0, Nat.zero_le _, by omega, rfl, by
    show _ ∧ _
    exact ⟨World.ownsRow_nil _ _ _ _, Grew.refl _⟩⟩
  case round =>
    obtain ⟨k, hk, hk2, rfl, HW⟩ := hrel
    by_cases hlt : k < l.length
    · by_cases h3 : k < 300
      · obtain ⟨x, hx⟩ : ∃ x, l[k]? = some x := ⟨_, List.getElem?_eq_getElem hlt⟩
        have HSN := Lib.hid (valsF_snoc hx h3 a)
        obtain ⟨b, off, rfl, c0, c1⟩ := HC.out k x hx
        clear hx
        have d0 := HW.out.2.cell c0
        have d1 := HW.out.2.cell c1
        obtain ⟨x0, x1⟩ := x
        simp only at d0 d1
        clear c0 c1
        have h3i : (k : Int) < 300 := by omega
        go_wp2_with fail
        refine (value_any (x0, x1) a wr h0 h1).mono ?_
        rintro r w2 ⟨rfl, hg⟩
        have HO := Lib.hid (show OwnVals w2 w.heap.size u5 (valsF (l.take k) a) from own_grew HW.out.1 hg)
        have HG := Lib.hid (HW.out.2.trans hg)
        obtain ⟨va, vc, rfl, hvc⟩ := own_form HO.out
        have HLN : Hid ((valsF (l.take k) a).length ≤ 300) := by show _ ≤ _; rw [valsF_length]; omega
        generalize valsF (l.take k) a = L at *
        generalize valF (x0, x1) a = X at *
        obtain ⟨X0, X1, X2⟩ := X
        clear hg HW
        have HO2 : Hid (∀ o, OwnVals (w2.alloc o) w.heap.size (.slice va L.length vc) L) := fun o => own_grew HO.out ((Grew.refl _).alloc o)
        go_wp2_with (at_builtin; refine wpList_appendV rfl _ _ rfl w.heap.size (.slice va L.length vc) L rfl (HO2.out _) _ [(X0, X1, X2)] rfl (vals_new _ _) (fun c h => by cases h) (by have := HLN.out; simp; omega) (Nat.le_trans HG.out.size (by simp)) ?_; intro v' w3 hown hgr hqq; obtain ⟨va2, vc2, rfl, _⟩ := own_form hown; have HG3 := Lib.hid (And.intro hown (grew_own (HO2.out _) (HG.out.alloc _) hgr)); clear hown hgr hqq)
        go_roundw
        case rel =>
          refine ⟨k + 1, by omega, by omega, by go_num, ?_⟩
          show _ ∧ _
          rw [← HSN.out]
          have hh := HG3.out
          rw [List.length_append] at hh
          exact hh
        case measure => simp [intOf]; omega
      · have ek : k = 300 := by omega
        subst ek
        have hw := HW.out
        have HE : Hid (OwnVals wr w.heap.size u5 (valsF l a) ∧ Grew w wr) := by
          show _ ∧ _
          rw [valsF_all] at hw
          exact hw
        clear hw HW
        go_wp2
        go_ret
        exact ⟨_, rfl, HE.out⟩
    · have ek : k = l.length := by omega
      subst ek
      have hw := HW.out
      have HE : Hid (OwnVals wr w.heap.size u5 (valsF l a) ∧ Grew w wr) := by
        show _ ∧ _
        rw [List.take_length] at hw
        exact hw
      clear hw HW
      go_wp2
      all_goals
        go_ret
        exact ⟨_, rfl, HE.out⟩
end Go.Proofs.Ytaoflhddcbmacaa

/-
  Package vec: Put, typed vectors with a length.
-/
namespace Go.Proofs.Ytaoflhddcbmacaa
open Go Go.ChangeShapes Go.WideShapes Go.ChangeAt Go.RowKit Go.Joins
open Go.Proofs.Ytaoflhddcbmacaa.Ft (V3 vV okV ValsAt inlineB legalB packF codeF typedF allF)
set_option linter.unusedVariables false
set_option linter.unusedSimpArgs false

theorem shaped_0 (elem kd : Int) (hkd : typedF elem 0 = (kd, true)) (hne : elem ≠ -1) (w : World) (n : Nat) (hn : n = w.heap.size) : Calls Try.prog 23 #[.int .i64 elem, .int .i64 0] w fun r w' => r = .returned (.tuple #[.agg #[.int .i64 kd, .bool true, fnv 43 #[.pointer (some ⟨n, 0, none⟩)], fnv 44 #[]], .int .i64 0]) ∧ Grew w w' ∧ w'.cell? ⟨n, 0, none⟩ = some (.int .i64 elem) := by
  subst hn
  refine (shaped_ty elem 0 (fun h => hne h.1) w).mono ?_
  rintro r w' ⟨rfl, hg, hc, _⟩
  refine ⟨?_, hg, hc⟩
  unfold shapeT
  rw [hkd]
  rfl
set_option maxRecDepth 100000 in
set_option maxHeartbeats 2000000 in
theorem put_ty0 (elem kd : Int) (hkd : typedF elem 0 = (kd, true)) (hne : elem ≠ -1) {B : Nat} {w : World} {p : Nat} {o : Option Nat} {most : Int} (s : St) (lv : Value) (l : List V3) (h : BufAt B w p o s.1 most s.2) (hB : B ≤ w.heap.size) (hl : (s.1.length : Int) ≤ most) (hm1 : most ≤ 1048576)
    (hv : ValsAt w lv l) (hlen : l.length ≤ 1048576) (hok : ∀ v ∈ l, okV v) (hap : ∀ ad n c, lv = .slice (some ad) n c → ad.block < w.heap.size ∧ ¬ Own2 p o ad.block) (hs : s.2 = 0) :
    Calls Try.prog 10 #[bptr p, .int .i64 elem, .int .i64 0, lv] w fun r w' => r = .returned (putV (putF most (takesE elem) true false kd 0 l s).1) ∧ TurnB B w w' p o most (putF most (takesE elem) true false kd 0 l s).2 := by
  have HB0 := Lib.hid h
  have HA := Lib.hid hap
  have HOK := Lib.hid hok
  have HV := Lib.hid hv
  obtain ⟨a, c, rfl, hcell⟩ := hv
  have HC := Lib.hid hcell
  have HP := Lib.hid (rfl : putF most (takesE elem) true false kd 0 l s = putF most (takesE elem) true false kd 0 l s)
  generalize hP : putF most (takesE elem) true false kd 0 l s = P
  have HPP := Lib.hid hP
  clear h hap hok hcell HP hP
  go_enter Try.func10, Try.ntmps10
  go_wp2_with fail
  refine (err_any (HB0.out.grew ((Grew.refl w).alloc _))).mono ?_
  rw [hs]
  rintro r w1 ⟨rfl, rfl⟩
  go_wp2_with fail
  refine (shaped_0 elem kd hkd hne _ (w.heap.size + 1) (by simp)).mono ?_
  rintro r w1 ⟨rfl, hg, hce⟩
  have HCE := Lib.hid hce
  clear hce hkd
  have hb : w1.heap[w.heap.size]? = some (.cells #[.int .i64 0, .int .i64 0, .int .u64 0] 28) := hg.heap (heap_alloc_new _ _)
  have HR := Lib.hid hb
  have HG : Hid (Grew w w1) := ((Grew.refl w).alloc _).trans hg
  have HSZ := Lib.hid hg.size
  clear hb hg
  go_wp2_with fail
  go_loopw [12, 13] (fun e i wr => ∃ k : Nat, k ≤ l.length ∧ i = .int .i64 k ∧ e = .int .i64 (eachL (takesE elem) 0 (l.take k)) ∧ Hid (Grew w wr ∧ wr.heap[w.heap.size]? = some (.cells #[.int .i64 0, .int .i64 0, .int .u64 0] 28) ∧ wr.cell? ⟨w1.heap.size, 0, none⟩ = some (.int .i64 kd) ∧ wr.cell? ⟨w1.heap.size, 1, none⟩ = some (.bool true) ∧ wr.cell? ⟨w1.heap.size, 2, none⟩ = some (fnv 43 #[.pointer (some ⟨w.heap.size + 1, 0, none⟩)]) ∧ wr.cell? ⟨w1.heap.size, 3, none⟩ = some (fnv 44 #[]) ∧ wr.cell? ⟨w.heap.size + 1, 0, none⟩ = some (.int .i64 elem))) (fun _ i _ => l.length - (intOf i).toNat)
  case atStart =>
    refine ⟨0, Nat.zero_le _, rfl, rfl, ?_⟩
    show _ ∧ _
    exact ⟨HG.out.alloc _, ((Grew.refl w1).alloc _).heap HR.out, by go_simp, by go_simp, by go_simp, by go_simp, ((Grew.refl w1).alloc _).cell HCE.out⟩
  case round =>
    obtain ⟨k, hk, rfl, rfl, HW⟩ := hrel
    by_cases hlt : k < l.length
    · by_cases he : eachL (takesE elem) 0 (l.take k) = 0
      · obtain ⟨bl, off, rfl, q0, q1, q2⟩ := HC.out k l[k] (List.getElem?_eq_getElem hlt)
        have HSN := Lib.hid (eachL_snoc (takesE elem) 0 l k hlt he)
        have d0 := HW.out.1.cell q0
        have d1 := HW.out.1.cell q1
        have d2 := HW.out.1.cell q2
        have g2 := HW.out.2.2.2.2.1
        rw [he]
        generalize l[k] = v at *
        obtain ⟨ty, wd, vn⟩ := v
        simp only at d0 d1 d2
        clear q0 q1 q2
        go_wp2_with fail
        refine wp_region_tables Grew [[], [0], [], [], [2, 3], [4], [1, 5], [6]] [[(54, 2), (55, 3), (56, 4), (57, 5), (58, 6), (12, 7)], [(52, 0), (54, 2), (55, 3), (56, 4), (57, 5), (12, 7)], [(52, 0), (53, 1), (55, 3), (57, 5), (58, 6), (12, 7)], [(52, 0), (53, 1), (54, 2), (57, 5), (58, 6), (12, 7)], [(52, 0), (53, 1), (54, 2), (55, 3), (58, 6), (12, 7)], [(52, 0), (53, 1), (54, 2), (55, 3), (56, 4), (12, 7)], [(52, 0), (53, 1), (54, 2), (55, 3), (56, 4), (57, 5)], [(52, 0), (53, 1), (54, 2), (55, 3), (56, 4), (57, 5), (58, 6)]] [(52, 0), (53, 1), (54, 2), (55, 3), (56, 4), (57, 5), (58, 6), (12, 7)]
          [Is (.pointer (some ⟨w1.heap.size, 2, none⟩)), Is (fnv 43 #[.pointer (some ⟨w.heap.size + 1, 0, none⟩)]), Is (.slice (some ⟨bl, off, none⟩) l.length c), Is (.int .i64 k), Is (.pointer (some ⟨bl, off + k * 3, none⟩)), Is (.agg #[.int .i64 ty, .int .i64 wd, .int .u64 vn]), Is (.int .i64 (takesE elem (ty, wd, vn))), Is (.int .i64 (takesE elem (ty, wd, vn)))]
          (by kernel_rfl) Grew.trans Grew.refl (Grew.refl _).drew (by kernel_rfl) ⟨is_st, is_st, is_st, is_st, is_st, is_st, is_st, is_st, trivial⟩ ⟨?_, ?_, ?_, ?_, ?_, ?_, ?_, ?_, trivial⟩ rfl ?_
        · intro y w2 hG hD K hK
          simp only [fillL, Act.put, List.setIfInBounds_toArray, List.set_cons_zero, List.set_cons_succ, List.getD_cons_zero, List.getD_cons_succ, Is] at hK ⊢
          refine ite_yes (by rfl) ?_
          go_simp
          exact hK _ _ _ rfl (Grew.refl _) rfl
        · intro y w2 hG hD K hK
          simp only [depsH, List.getD_cons_zero, List.getD_cons_succ, Is, and_true] at hD
          have h0 := hD
          clear hD
          have dg2 := hG.cell g2
          have dd0 := hG.cell d0
          have dd1 := hG.cell d1
          have dd2 := hG.cell d2
          simp only [fillL, Act.put, List.setIfInBounds_toArray, List.set_cons_zero, List.set_cons_succ, List.getD_cons_zero, List.getD_cons_succ, Is] at hK ⊢
          rw [h0] at hK ⊢
          clear h0
          refine ite_yes (by rfl) ?_
          go_simp
          exact hK _ _ _ rfl (Grew.refl _) rfl
        · intro y w2 hG hD K hK
          simp only [fillL, Act.put, List.setIfInBounds_toArray, List.set_cons_zero, List.set_cons_succ, List.getD_cons_zero, List.getD_cons_succ, Is] at hK ⊢
          refine ite_yes (by rfl) ?_
          go_simp
          exact hK _ _ _ rfl (Grew.refl _) rfl
        · intro y w2 hG hD K hK
          simp only [fillL, Act.put, List.setIfInBounds_toArray, List.set_cons_zero, List.set_cons_succ, List.getD_cons_zero, List.getD_cons_succ, Is] at hK ⊢
          refine ite_yes (by rfl) ?_
          go_simp
          exact hK _ _ _ rfl (Grew.refl _) rfl
        · intro y w2 hG hD K hK
          simp only [depsH, List.getD_cons_zero, List.getD_cons_succ, Is, and_true] at hD
          have h2 := hD.1
          have h3 := hD.2
          clear hD
          simp only [fillL, Act.put, List.setIfInBounds_toArray, List.set_cons_zero, List.set_cons_succ, List.getD_cons_zero, List.getD_cons_succ, Is] at hK ⊢
          rw [h2, h3] at hK ⊢
          clear h2 h3
          refine ite_yes (by rfl) ?_
          go_simp
          exact hK _ _ _ rfl (Grew.refl _) rfl
        · intro y w2 hG hD K hK
          simp only [depsH, List.getD_cons_zero, List.getD_cons_succ, Is, and_true] at hD
          have h4 := hD
          clear hD
          have dg2 := hG.cell g2
          have dd0 := hG.cell d0
          have dd1 := hG.cell d1
          have dd2 := hG.cell d2
          simp only [fillL, Act.put, List.setIfInBounds_toArray, List.set_cons_zero, List.set_cons_succ, List.getD_cons_zero, List.getD_cons_succ, Is] at hK ⊢
          rw [h4] at hK ⊢
          clear h4
          refine ite_yes (by rfl) ?_
          go_simp
          exact hK _ _ _ rfl (Grew.refl _) rfl
        · intro y w2 hG hD K hK
          simp only [depsH, List.getD_cons_zero, List.getD_cons_succ, Is, and_true] at hD
          have h1 := hD.1
          have h5 := hD.2
          clear hD
          simp only [fillL, Act.put, List.setIfInBounds_toArray, List.set_cons_zero, List.set_cons_succ, List.getD_cons_zero, List.getD_cons_succ, Is] at hK ⊢
          rw [h1, h5] at hK ⊢
          clear h1 h5
          refine ite_yes (by rfl) ?_
          go_simp
          refine (takes_any elem (ty, wd, vn) _ _ (hG.cell HW.out.2.2.2.2.2.2)).mono ?_
          rintro r w3 ⟨rfl, hg⟩
          exact hK _ _ _ rfl hg rfl
        · intro y w2 hG hD K hK
          simp only [depsH, List.getD_cons_zero, List.getD_cons_succ, Is, and_true] at hD
          have h6 := hD
          clear hD
          simp only [fillL, Act.put, List.setIfInBounds_toArray, List.set_cons_zero, List.set_cons_succ, List.getD_cons_zero, List.getD_cons_succ, Is] at hK ⊢
          rw [h6] at hK ⊢
          clear h6
          refine ite_yes (by rfl) ?_
          go_simp
          exact hK _ _ _ rfl (Grew.refl _) rfl
        · intro y w2 hG hF
          simp only [factsH, Is, and_true, Nat.reduceAdd] at hF
          have h0 := hF.1
          have h1 := hF.2.1
          have h2 := hF.2.2.1
          have h3 := hF.2.2.2.1
          have h4 := hF.2.2.2.2.1
          have h5 := hF.2.2.2.2.2.1
          have h6 := hF.2.2.2.2.2.2.1
          have h7 := hF.2.2.2.2.2.2.2
          clear hF
          simp only [fillL, Act.put, List.setIfInBounds_toArray, List.set_cons_zero, List.set_cons_succ, List.getD_cons_zero, List.getD_cons_succ, Is]
          rw [h0, h1, h2, h3, h4, h5, h6, h7]
          clear h0 h1 h2 h3 h4 h5 h6 h7
          have HG2 := Lib.hid (HW.out.1.trans hG)
          have HGG := Lib.hid hG
          clear hG
          go_wp2
          go_roundw
          case rel =>
            have hw := HW.out
            have hgg := HGG.out
            exact ⟨k + 1, by omega, by go_num, by rw [HSN.out], HG2.out, hgg.heap hw.2.1, hgg.cell hw.2.2.1, hgg.cell hw.2.2.2.1, hgg.cell hw.2.2.2.2.1, hgg.cell hw.2.2.2.2.2.1, hgg.cell hw.2.2.2.2.2.2⟩
          case measure => simp [intOf]; omega
      · have hF : putF most (takesE elem) true false kd 0 l s = (((0, 0, 0), eachL (takesE elem) 0 (l.take k)), s) := by
          unfold putF
          rw [eachL_drop (takesE elem) 0 l k he, if_pos he]
        have HF := Lib.hid hF
        clear hF
        generalize eachL (takesE elem) 0 (l.take k) = e at *
        obtain ⟨hgw, hrow, _⟩ := HW.out
        have f0 := row_frozen hrow 0
        have f1 := row_frozen hrow 1
        have f2 := row_frozen hrow 2
        have c0 := row_cell hrow 0 _ rfl
        have c1 := row_cell hrow 1 _ rfl
        have c2 := row_cell hrow 2 _ rfl
        have HGW := Lib.hid hgw
        clear hrow hgw
        go_wp2
        refine bodyPost_ret (v := putV ((0, 0, 0), e)) ?_ rfl ⟨?_, ?_⟩
        · simp [results, Try.results10, go_sem, c0, c1, c2, putV, vV]
        · rw [← HPP.out, HF.out]
        · rw [← HPP.out, HF.out]
          exact (TurnB.refl HB0.out).grew ((((HGW.out).setCell (Nat.le_refl _) _).setCell (Nat.le_refl _) _).setCell (Nat.le_refl _) _)
    · have ek : k = l.length := by omega
      rw [ek, List.take_length]
      by_cases he : eachL (takesE elem) 0 l = 0
      · rw [he]
        clear hlt
        obtain ⟨hgw, hrow, g0, g1, g2, g3, _⟩ := HW.out
        have HGW := Lib.hid hgw
        have HROW := Lib.hid hrow
        clear hrow hgw HW
        go_wp2_with fail
        refine (len_any (HB0.out.grew HGW.out)).mono ?_
        rintro r w3 ⟨rfl, rfl⟩
        go_wp2_with fail
        refine (Ft.all_any l (0, 0, 0) _ 1 _ _ (by omega) HOK.out ok0 (HV.out.grew HGW.out)).mono ?_
        rintro r w3 ⟨rfl, hg⟩
        have HG3 := Lib.hid (HGW.out.trans hg)
        have HROW3 := Lib.hid (hg.heap HROW.out)
        replace g0 := hg.cell g0
        replace g1 := hg.cell g1
        replace g3 := hg.cell g3
        clear hg g2
        by_cases hx : allF l (0, 0, 0) s.1.length 1 = 0
        · have hF : putF most (takesE elem) true false kd 0 l s = (((0, 0, 0), 211), s) := by
            unfold putF
            rw [if_neg (by simpa using he)]
            simp [hx]
          have HF := Lib.hid hF
          clear hF
          rw [hx]
          have hrow := HROW3.out
          have f0 := row_frozen hrow 0
          have f1 := row_frozen hrow 1
          have f2 := row_frozen hrow 2
          have c0 := row_cell hrow 0 _ rfl
          have c1 := row_cell hrow 1 _ rfl
          have c2 := row_cell hrow 2 _ rfl
          clear hrow
          go_wp2
          refine bodyPost_ret (v := putV ((0, 0, 0), 211)) ?_ rfl ⟨?_, ?_⟩
          · simp [results, Try.results10, go_sem, c0, c1, c2, putV, vV]
          · rw [← HPP.out, HF.out]
          · rw [← HPP.out, HF.out]
            exact (TurnB.refl HB0.out).grew ((((HG3.out).setCell (Nat.le_refl _) _).setCell (Nat.le_refl _) _).setCell (Nat.le_refl _) _)
        · have HX := Lib.hid (allF_isW hx)
          have HXE := Lib.hid (rfl : allF l (0, 0, 0) s.1.length 1 = allF l (0, 0, 0) s.1.length 1)
          have HF : Hid (∀ x, allF l (0, 0, 0) s.1.length 1 = x → x ≠ 0 → putF most (takesE elem) true false kd 0 l s = if (elemsS most x l (numS most x l.length (alignS most x s))).2 ≠ 0 then (((0, 0, 0), (elemsS most x l (numS most x l.length (alignS most x s))).2), elemsS most x l (numS most x l.length (alignS most x s))) else (((kd, x, ((numS most x l.length (alignS most x s)).1.length : Int)), 0), elemsS most x l (numS most x l.length (alignS most x s)))) := by
            show ∀ x, _ = x → _
            intro x hx hx0
            unfold putF
            rw [if_neg (by simpa using he)]
            simp only [if_true, if_false, Bool.false_eq_true, if_neg]
            rw [hx, if_neg hx0]
          replace HF := Lib.hid (HF.out _ rfl hx)
          have M3 : Mid B w p o most (.slice a l.length c) l w.heap.size w1.heap.size kd true (fnv 44 #[]) s o w3 := by
            have hs3 := HG3.out.size
            have hlt1 := lt_of_cell g0
            have hb0 := HB0.out.lt
            have hs1 := HG.out.size
            refine ⟨HB0.out.grew HG3.out, Next.refl _ _, Moved.of_grew HG3.out, ?_, HV.out.grew HG3.out, HROW3.out, g0, g1, g3⟩
            rintro b (rfl | rfl | ⟨ad, n, c', e, rfl⟩)
            · exact ⟨by simp at hlt1; omega, fun h => by have := hb0 _ h; omega⟩
            · exact ⟨by simpa using hlt1, fun h => by have := hb0 _ h; omega⟩
            · have := HA.out ad n c' e
              exact ⟨by omega, this.2⟩
          have HM3 := Lib.hid M3
          have HB3 : B ≤ w3.heap.size := Nat.le_trans hB HG3.out.size
          clear M3 HXE g0 g1 g3 HROW3 HROW HG3 HGW
          generalize allF l (0, 0, 0) s.1.length 1 = x at *
          go_wp2_with fail
          refine (align_any s x HM3.out.1 HB3 hl hm1).mono ?_
          rintro r w4 ⟨rfl, ht⟩
          have HB4 : B ≤ w4.heap.size := by obtain ⟨_, _, _, m⟩ := ht; exact Nat.le_trans HB3 m.size
          obtain ⟨o4, m4⟩ := HM3.out.step ht
          have g1 := m4.2.2.2.2.2.2.2.1
          have HM4 := Lib.hid m4
          clear ht m4
          go_wp2_with fail
          refine (num_any (alignS most x s) x (l.length : Int) HM4.out.1 HB4 (alignS_le hl) hm1 (by omega) (by omega)).mono ?_
          rintro r w5 ⟨rfl, ht⟩
          have HB5 : B ≤ w5.heap.size := by obtain ⟨_, _, _, m⟩ := ht; exact Nat.le_trans HB4 m.size
          obtain ⟨o5, m5⟩ := HM4.out.step ht
          have HM5 := Lib.hid m5
          clear ht m5 g1
          go_wp2_with fail
          refine (len_any HM5.out.1).mono ?_
          rintro r w6 ⟨rfl, rfl⟩
          go_wp2_with fail
          refine (elements_any (numS most x l.length (alignS most x s)) x _ l HX.out HM5.out.1 HB5 (numS_le (alignS_le hl)) hm1 HM5.out.2.2.2.2.1 hlen HOK.out (fun ad n c' e => (HM5.out.2.2.2.1 _ (.inr (.inr ⟨ad, n, c', e, rfl⟩))).2)).mono ?_
          rintro r w6 ⟨rfl, ht⟩
          have HB6 : B ≤ w6.heap.size := by obtain ⟨_, _, _, m⟩ := ht; exact Nat.le_trans HB5 m.size
          obtain ⟨o6, m6⟩ := HM5.out.step ht
          have g3 := m6.2.2.2.2.2.2.2.2
          have HM6 := Lib.hid m6
          clear ht m6
          go_wp2_with fail
          refine (noTags_any _ _ _ _).mono ?_
          rintro r w7 ⟨rfl, hg⟩
          have ht := (TurnB.refl (o := o6) HM6.out.1).grew hg
          obtain ⟨o7, m7⟩ := HM6.out.step ht
          have g0 := m7.2.2.2.2.2.2.1
          have hrow := m7.2.2.2.2.2.1
          have HM7 := Lib.hid m7
          clear ht m7 g3
          go_wp2_with fail
          refine (err_any HM7.out.1).mono ?_
          rintro r w8 ⟨rfl, rfl⟩
          have hn2 := numS_le (x := x) (u := (l.length : Int)) (alignS_le (x := x) hl)
          by_cases hz : (elemsS most x l (numS most x l.length (alignS most x s))).2 = 0
          · have HF2 : Hid (putF most (takesE elem) true false kd 0 l s = (((kd, x, ((numS most x l.length (alignS most x s)).1.length : Int)), 0), (elemsS most x l (numS most x l.length (alignS most x s))))) := HF.out.trans (if_neg (by simpa using hz))
            rw [hz]
            clear HF hz HM3 HM4 HM5 HM6
            generalize (elemsS most x l (numS most x l.length (alignS most x s))) = sf at *
            generalize numS most x l.length (alignS most x s) = s2 at *
            have f0 := row_frozen hrow 0
            have f1 := row_frozen hrow 1
            have f2 := row_frozen hrow 2
            have c0 := row_cell hrow 0 _ rfl
            have c1 := row_cell hrow 1 _ rfl
            have c2 := row_cell hrow 2 _ rfl
            clear hrow
            go_wp2
            refine bodyPost_ret (v := putV ((kd, x, (s2.1.length : Int)), 0)) ?_ rfl ⟨?_, ?_⟩
            · simp [results, Try.results10, go_sem, c0, c1, c2, putV, vV]
            · rw [← HPP.out, HF2.out]
            · rw [← HPP.out, HF2.out]
              exact HM7.out.turnSet (Nat.le_refl _) _ _ _
          · have HF2 : Hid (putF most (takesE elem) true false kd 0 l s = (((0, 0, 0), (elemsS most x l (numS most x l.length (alignS most x s))).2), (elemsS most x l (numS most x l.length (alignS most x s))))) := HF.out.trans (if_pos (by simpa using hz))
            clear HF HM3 HM4 HM5 HM6
            generalize (elemsS most x l (numS most x l.length (alignS most x s))) = sf at *
            have f0 := row_frozen hrow 0
            have f1 := row_frozen hrow 1
            have f2 := row_frozen hrow 2
            have c0 := row_cell hrow 0 _ rfl
            have c1 := row_cell hrow 1 _ rfl
            have c2 := row_cell hrow 2 _ rfl
            clear hrow
            go_wp2
            refine bodyPost_ret (v := putV ((0, 0, 0), sf.2)) ?_ rfl ⟨?_, ?_⟩
            · simp [results, Try.results10, go_sem, c0, c1, c2, putV, vV]
            · rw [← HPP.out, HF2.out]
            · rw [← HPP.out, HF2.out]
              exact HM7.out.turnSet (Nat.le_refl _) _ _ _
      · have hF : putF most (takesE elem) true false kd 0 l s = (((0, 0, 0), eachL (takesE elem) 0 l), s) := by
          unfold putF
          rw [if_pos he]
        have HF := Lib.hid hF
        clear hF
        generalize eachL (takesE elem) 0 l = e at *
        obtain ⟨hgw, hrow, _⟩ := HW.out
        have f0 := row_frozen hrow 0
        have f1 := row_frozen hrow 1
        have f2 := row_frozen hrow 2
        have c0 := row_cell hrow 0 _ rfl
        have c1 := row_cell hrow 1 _ rfl
        have c2 := row_cell hrow 2 _ rfl
        have HGW := Lib.hid hgw
        clear hrow hgw
        go_wp2
        refine bodyPost_ret (v := putV ((0, 0, 0), e)) ?_ rfl ⟨?_, ?_⟩
        · simp [results, Try.results10, go_sem, c0, c1, c2, putV, vV]
        · rw [← HPP.out, HF.out]
        · rw [← HPP.out, HF.out]
          exact (TurnB.refl HB0.out).grew ((((HGW.out).setCell (Nat.le_refl _) _).setCell (Nat.le_refl _) _).setCell (Nat.le_refl _) _)
end Go.Proofs.Ytaoflhddcbmacaa

/-
  Package vec: Put's ways out ahead of the values.
-/
namespace Go.Proofs.Ytaoflhddcbmacaa
open Go Go.ChangeShapes Go.WideShapes Go.ChangeAt Go.RowKit Go.Joins
open Go.Proofs.Ytaoflhddcbmacaa.Ft (V3 vV okV ValsAt inlineB legalB packF codeF typedF allF)
set_option linter.unusedVariables false
set_option linter.unusedSimpArgs false

set_option maxHeartbeats 1000000 in
theorem put_err (elem many : Int) {B : Nat} {w : World} {p : Nat} {o : Option Nat} {most : Int} (s : St) (lv : Value) (l : List V3) (h : BufAt B w p o s.1 most s.2) (hB : B ≤ w.heap.size) (hv : ValsAt w lv l) (hlen : l.length ≤ 1048576) (hs : s.2 ≠ 0) :
    Calls Try.prog 10 #[bptr p, .int .i64 elem, .int .i64 many, lv] w fun r w' => r = .returned (putV ((0, 0, 0), s.2)) ∧ TurnB B w w' p o most s := by
  have HB0 := Lib.hid h
  obtain ⟨a, c, rfl, hcell⟩ := hv
  clear h hcell
  go_enter Try.func10, Try.ntmps10
  go_wp2_with fail
  refine (err_any (HB0.out.grew ((Grew.refl w).alloc _))).mono ?_
  obtain ⟨e, he⟩ : ∃ e, e = s.2 := ⟨_, rfl⟩
  rw [← he] at hs ⊢
  rintro r w1 ⟨rfl, rfl⟩
  have HG : Hid (Grew w (w.alloc (.cells #[.int .i64 0, .int .i64 0, .int .u64 0] 28))) := (Grew.refl w).alloc _
  go_wp2
  refine bodyPost_ret (v := putV ((0, 0, 0), e)) ?_ rfl ⟨by rw [he], ?_⟩
  · simp [results, Try.results10, go_sem, putV, vV, he]
  · exact (TurnB.refl HB0.out).grew HG.out
theorem shaped_x (elem many : Int) (hkd : (typedF elem many).2 = false) (hne : ¬ (elem = -1 ∧ many = 0)) (w : World) : Calls Try.prog 23 #[.int .i64 elem, .int .i64 many] w fun r w' => r = .returned (.tuple #[.agg #[.int .i64 0, .bool false, .nilFunc, .nilFunc], .int .i64 20]) ∧ Grew w w' := by
  refine (shaped_ty elem many hne w).mono ?_
  rintro r w' ⟨rfl, hg, _⟩
  refine ⟨?_, hg⟩
  unfold shapeT
  rw [hkd]
  rfl
theorem shaped_g (elem many kd : Int) (hkd : typedF elem many = (kd, true)) (hm : 0 < many) (w : World) : Calls Try.prog 23 #[.int .i64 elem, .int .i64 many] w fun r w' => (∃ (a : Addr) (b : Bool) (c : Int), r = .returned (.tuple #[.agg #[.int .i64 kd, .bool b, fnv 43 #[.pointer (some a)], fnv 44 #[]], .int .i64 0])) ∧ Grew w w' := by
  refine (shaped_ty elem many (fun h => by omega) w).mono ?_
  rintro r w' ⟨rfl, hg, _⟩
  refine ⟨⟨⟨w.heap.size, 0, none⟩, many == 0, 0, ?_⟩, hg⟩
  unfold shapeT
  rw [hkd, if_pos rfl]
set_option maxHeartbeats 1000000 in
theorem put_no (elem many : Int) (hkd : (typedF elem many).2 = false) (hne : ¬ (elem = -1 ∧ many = 0)) {B : Nat} {w : World} {p : Nat} {o : Option Nat} {most : Int} (s : St) (lv : Value) (l : List V3) (h : BufAt B w p o s.1 most s.2) (hB : B ≤ w.heap.size) (hv : ValsAt w lv l) (hlen : l.length ≤ 1048576) (hs : s.2 = 0) :
    Calls Try.prog 10 #[bptr p, .int .i64 elem, .int .i64 many, lv] w fun r w' => r = .returned (putV ((0, 0, 0), 20)) ∧ TurnB B w w' p o most s := by
  have HB0 := Lib.hid h
  obtain ⟨a, c, rfl, hcell⟩ := hv
  clear h hcell
  go_enter Try.func10, Try.ntmps10
  go_wp2_with fail
  refine (err_any (HB0.out.grew ((Grew.refl w).alloc _))).mono ?_
  rw [hs]
  rintro r w1 ⟨rfl, rfl⟩
  go_wp2_with fail
  refine (shaped_x elem many hkd hne _).mono ?_
  clear hkd hne
  rintro r w1 ⟨rfl, hg⟩
  have hb : w1.heap[w.heap.size]? = some (.cells #[.int .i64 0, .int .i64 0, .int .u64 0] 28) := hg.heap (heap_alloc_new _ _)
  have HR := Lib.hid hb
  have HG0 : Hid (Grew w w1) := ((Grew.refl w).alloc _).trans hg
  clear hb hg
  go_wp2_with fail
  go_loopw [12, 13] (fun e i wr => i = .int .i64 0 ∧ e = .int .i64 20 ∧ Hid (Grew w wr ∧ wr.heap[w.heap.size]? = some (.cells #[.int .i64 0, .int .i64 0, .int .u64 0] 28))) (fun _ _ _ => 0)
  case atStart =>
    refine ⟨rfl, rfl, ?_⟩
    show _ ∧ _
    exact ⟨HG0.out.alloc _, ((Grew.refl w1).alloc _).heap HR.out⟩
  case round =>
    obtain ⟨rfl, rfl, HW⟩ := hrel
    obtain ⟨hgw, hrow⟩ := HW.out
    have HG := Lib.hid hgw
    clear hgw HW
    have f0 := row_frozen hrow 0
    have f1 := row_frozen hrow 1
    have f2 := row_frozen hrow 2
    have c0 := row_cell hrow 0 _ rfl
    have c1 := row_cell hrow 1 _ rfl
    have c2 := row_cell hrow 2 _ rfl
    clear hrow
    go_wp2
    all_goals
      refine bodyPost_ret (v := putV ((0, 0, 0), 20)) ?_ rfl ⟨rfl, ?_⟩
      · simp [results, Try.results10, go_sem, c0, c1, c2, putV, vV]
      · exact (TurnB.refl HB0.out).grew ((((HG.out).setCell (Nat.le_refl _) _).setCell (Nat.le_refl _) _).setCell (Nat.le_refl _) _)
set_option maxHeartbeats 1000000 in
theorem put_bad (elem many kd : Int) (hkd : typedF elem many = (kd, true)) (hm : 0 < many) {B : Nat} {w : World} {p : Nat} {o : Option Nat} {most : Int} (s : St) (lv : Value) (l : List V3) (h : BufAt B w p o s.1 most s.2) (hB : B ≤ w.heap.size) (hv : ValsAt w lv l) (hlen : l.length ≤ 1048576) (hlm : (l.length : Int) ≠ many) (hs : s.2 = 0) :
    Calls Try.prog 10 #[bptr p, .int .i64 elem, .int .i64 many, lv] w fun r w' => r = .returned (putV ((0, 0, 0), 2)) ∧ TurnB B w w' p o most s := by
  have HB0 := Lib.hid h
  obtain ⟨a, c, rfl, hcell⟩ := hv
  clear h hcell
  go_enter Try.func10, Try.ntmps10
  go_wp2_with fail
  refine (err_any (HB0.out.grew ((Grew.refl w).alloc _))).mono ?_
  rw [hs]
  rintro r w1 ⟨rfl, rfl⟩
  go_wp2_with fail
  refine (shaped_g elem many kd hkd hm _).mono ?_
  clear hkd
  rintro r w1 ⟨⟨x1, x2, x3, rfl⟩, hg⟩
  have hb : w1.heap[w.heap.size]? = some (.cells #[.int .i64 0, .int .i64 0, .int .u64 0] 28) := hg.heap (heap_alloc_new _ _)
  have HR := Lib.hid hb
  have HG0 : Hid (Grew w w1) := ((Grew.refl w).alloc _).trans hg
  clear hb hg
  go_wp2_with fail
  go_loopw [12, 13] (fun e i wr => i = .int .i64 0 ∧ e = .int .i64 2 ∧ Hid (Grew w wr ∧ wr.heap[w.heap.size]? = some (.cells #[.int .i64 0, .int .i64 0, .int .u64 0] 28))) (fun _ _ _ => 0)
  case atStart =>
    refine ⟨rfl, rfl, ?_⟩
    show _ ∧ _
    exact ⟨HG0.out.alloc _, ((Grew.refl w1).alloc _).heap HR.out⟩
  case round =>
    obtain ⟨rfl, rfl, HW⟩ := hrel
    obtain ⟨hgw, hrow⟩ := HW.out
    have HG := Lib.hid hgw
    clear hgw HW
    have f0 := row_frozen hrow 0
    have f1 := row_frozen hrow 1
    have f2 := row_frozen hrow 2
    have c0 := row_cell hrow 0 _ rfl
    have c1 := row_cell hrow 1 _ rfl
    have c2 := row_cell hrow 2 _ rfl
    clear hrow
    go_wp2
    all_goals
      refine bodyPost_ret (v := putV ((0, 0, 0), 2)) ?_ rfl ⟨rfl, ?_⟩
      · simp [results, Try.results10, go_sem, c0, c1, c2, putV, vV]
      · exact (TurnB.refl HB0.out).grew ((((HG.out).setCell (Nat.le_refl _) _).setCell (Nat.le_refl _) _).setCell (Nat.le_refl _) _)
end Go.Proofs.Ytaoflhddcbmacaa
