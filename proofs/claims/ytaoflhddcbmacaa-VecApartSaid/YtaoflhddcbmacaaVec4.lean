/-
  Package vec: Put.
-/
import Derived.Test.YtaoflhddcbmacaaVec3
import Derived.Laws.EntriesVeiled
namespace Go.Proofs.Ytaoflhddcbmacaa
open Go Go.ChangeShapes Go.WideShapes Go.ChangeAt Go.RowKit Go.Joins
open Go.Proofs.Ytaoflhddcbmacaa.Ft (V3 vV okV ValsAt inlineB legalB packF codeF typedF allF)
set_option linter.unusedVariables false
set_option linter.unusedSimpArgs false

theorem row_cell {w : World} {p : Nat} {cs : Array Value} {t : TypeId} (h : w.heap[p]? = some (.cells cs t (0, 0))) (k : Nat) (v : Value) (hv : cs[k]? = some v) : w.cell? ⟨p, k, none⟩ = some v := by
  simp [World.cell?, h, hv]
def eachL (T : V3 → Int) (e : Int) (l : List V3) : Int := l.foldl (fun e v => if e = 0 then T v else e) e
theorem eachL_stuck (T : V3 → Int) {e : Int} (h : e ≠ 0) : ∀ l : List V3, eachL T e l = e
  | [] => rfl
  | v :: r => by
    show eachL T (if e = 0 then T v else e) r = e
    rw [if_neg h]
    exact eachL_stuck T h r
theorem eachL_drop (T : V3 → Int) (e : Int) (l : List V3) (k : Nat) (h : eachL T e (l.take k) ≠ 0) : eachL T e l = eachL T e (l.take k) := by
  have := eachL_stuck T h (l.drop k)
  unfold eachL at *
  rw [← List.foldl_append, List.take_append_drop] at this
  exact this
theorem eachL_snoc (T : V3 → Int) (e : Int) (l : List V3) (k : Nat) (h : k < l.length) (h0 : eachL T e (l.take k) = 0) : eachL T e (l.take (k + 1)) = T l[k] := by
  unfold eachL at *
  rw [List.take_succ_eq_append_getElem h, List.foldl_append]
  simp only [List.foldl_cons, List.foldl_nil]
  rw [if_pos h0]
/-- What Put does once the form is known. -/
def putF (most : Int) (T : V3 → Int) (len tagged : Bool) (kind e0 : Int) (l : List V3) (s : St) : (V3 × Int) × St :=
  if eachL T e0 l ≠ 0 then (((0, 0, 0), eachL T e0 l), s) else
  let x := allF l (0, 0, 0) s.1.length (if len then 1 else 0)
  if x = 0 then (((0, 0, 0), 211), s) else
  let s1 := alignS most x s
  let s2 := if len then numS most x l.length s1 else s1
  let s3 := elemsS most x l s2
  let s4 := if tagged then tagsS most x l s3 else s3
  if s4.2 ≠ 0 then (((0, 0, 0), s4.2), s4) else (((kind, x, (s2.1.length : Int)), 0), s4)
theorem allF_isW {l : List V3} {k : V3} {a b : Int} (h : allF l k a b ≠ 0) : isW (allF l k a b) = true := by
  revert h
  unfold allF Ft.leastOf
  repeat' split
  all_goals simp [isW]
/-- The middle of Put: the buffer's state, the values, the result's row, the form's cells. -/
def Mid (B : Nat) (w : World) (p : Nat) (o : Option Nat) (most : Int) (lv : Value) (l : List V3) (nR nS : Nat) (kind : Int) (len : Bool) (tg : Value) (s : St) (o' : Option Nat) (wn : World) : Prop :=
  BufAt B wn p o' s.1 most s.2 ∧ Next w o o' ∧ Moved (Own2 p o) w wn ∧ (∀ b, (b = nR ∨ b = nS ∨ ∃ ad n c, lv = .slice (some ad) n c ∧ ad.block = b) → b < wn.heap.size ∧ ¬ Own2 p o' b) ∧ ValsAt wn lv l ∧
    wn.heap[nR]? = some (.cells #[.int .i64 0, .int .i64 0, .int .u64 0] 28) ∧ wn.cell? ⟨nS, 0, none⟩ = some (.int .i64 kind) ∧ wn.cell? ⟨nS, 1, none⟩ = some (.bool len) ∧ wn.cell? ⟨nS, 3, none⟩ = some tg
theorem vals_moved {w w' : World} {S : Nat → Prop} {lv : Value} {l : List V3} (h : ValsAt w lv l) (hm : Moved S w w') (hap : ∀ ad n c, lv = .slice (some ad) n c → ¬ S ad.block) : ValsAt w' lv l := by
  obtain ⟨a, c, rfl, hc⟩ := h
  refine ⟨a, c, rfl, fun i x hx => ?_⟩
  obtain ⟨b, off, rfl, h0, h1, h2⟩ := hc i x hx
  have hn : ¬ S b := hap ⟨b, off, none⟩ _ _ rfl
  exact ⟨b, off, rfl, hm.cell h0 hn, hm.cell h1 hn, hm.cell h2 hn⟩
theorem Mid.step {B : Nat} {w : World} {p : Nat} {o : Option Nat} {most : Int} {lv : Value} {l : List V3} {nR nS : Nat} {kind : Int} {len : Bool} {tg : Value} {s s' : St} {o' : Option Nat} {wn wm : World} (h : Mid B w p o most lv l nR nS kind len tg s o' wn) (ht : TurnB B wn wm p o' most s') :
    ∃ o2, Mid B w p o most lv l nR nS kind len tg s' o2 wm := by
  obtain ⟨hb, hn, hm, hk, hv, hr, g0, g1, g3⟩ := h
  obtain ⟨o2, b2, n2, m2⟩ := ht
  have kR := (hk nR (.inl rfl)).2
  have kS := (hk nS (.inr (.inl rfl))).2
  refine ⟨o2, b2, hn.trans n2 hm.size, hm.own hn m2, fun b hb => ?_, vals_moved hv m2 fun ad n c e => (hk _ (.inr (.inr ⟨ad, n, c, e, rfl⟩))).2, m2.heap hr kR, m2.cell g0 kS, m2.cell g1 kS, m2.cell g3 kS⟩
  have h1 := hk b hb
  refine ⟨Nat.lt_of_lt_of_le h1.1 m2.size, ?_⟩
  rintro (e | e)
  · exact h1.2 (.inl e)
  · rcases n2 b e.symm with e2 | e2
    · exact h1.2 (.inr e2.symm)
    · omega
theorem Mid.turnSet {B : Nat} {w : World} {p : Nat} {o : Option Nat} {most : Int} {lv : Value} {l : List V3} {nR nS : Nat} {kind : Int} {len : Bool} {tg : Value} {s : St} {o' : Option Nat} {wn : World} (h : Mid B w p o most lv l nR nS kind len tg s o' wn) (hge : w.heap.size ≤ nR) (v0 v1 v2 : Value) :
    TurnB B w (((wn.setCell ⟨nR, 0, none⟩ v0).setCell ⟨nR, 1, none⟩ v1).setCell ⟨nR, 2, none⟩ v2) p o most s := by
  obtain ⟨hb, hn, hm, hk, _⟩ := h
  have kR := (hk nR (.inl rfl)).2
  have m : Moved (fun k => k = nR) wn (((wn.setCell ⟨nR, 0, none⟩ v0).setCell ⟨nR, 1, none⟩ v1).setCell ⟨nR, 2, none⟩ v2) :=
    Moved.setCell (S := fun k => k = nR) (p := ⟨nR, 2, none⟩) (Moved.setCell (S := fun k => k = nR) (p := ⟨nR, 1, none⟩) (Moved.setCell (S := fun k => k = nR) (p := ⟨nR, 0, none⟩) (Moved.refl _ wn) (fun _ => rfl) v0) (fun _ => rfl) v1) (fun _ => rfl) v2
  refine ⟨o', hb.kept m (fun e => kR (.inl e.symm)) (fun k e e2 => kR (.inr (by rw [e, e2]))), hn, hm.trans m fun j hj e => by omega⟩
theorem Mid.turn {B : Nat} {w : World} {p : Nat} {o : Option Nat} {most : Int} {lv : Value} {l : List V3} {nR nS : Nat} {kind : Int} {len : Bool} {tg : Value} {s : St} {o' : Option Nat} {wn : World} (h : Mid B w p o most lv l nR nS kind len tg s o' wn) : TurnB B w wn p o most s := ⟨o', h.1, h.2.1, h.2.2.1⟩
theorem ok0 : okV (0, 0, 0) := by unfold okV; simp
def putV (q : V3 × Int) : Value := .tuple #[vV q.1, .int .i64 q.2]
set_option maxRecDepth 100000 in
set_option maxHeartbeats 2000000 in
theorem put_un {B : Nat} {w : World} {p : Nat} {o : Option Nat} {most : Int} (s : St) (lv : Value) (l : List V3) (h : BufAt B w p o s.1 most s.2) (hB : B ≤ w.heap.size) (hl : (s.1.length : Int) ≤ most) (hm1 : most ≤ 1048576)
    (hv : ValsAt w lv l) (hlen : l.length ≤ 1048576) (hok : ∀ v ∈ l, okV v) (hap : ∀ ad n c, lv = .slice (some ad) n c → ad.block < w.heap.size ∧ ¬ Own2 p o ad.block) (hs : s.2 = 0) :
    Calls Try.prog 10 #[bptr p, .int .i64 (-1), .int .i64 0, lv] w fun r w' => r = .returned (putV (putF most legalE true true 10 0 l s).1) ∧ TurnB B w w' p o most (putF most legalE true true 10 0 l s).2 := by
  have HB0 := Lib.hid h
  have HA := Lib.hid hap
  have HOK := Lib.hid hok
  have HV := Lib.hid hv
  obtain ⟨a, c, rfl, hcell⟩ := hv
  have HC := Lib.hid hcell
  have HP := Lib.hid (rfl : putF most legalE true true 10 0 l s = putF most legalE true true 10 0 l s)
  generalize hP : putF most legalE true true 10 0 l s = P
  have HPP := Lib.hid hP
  clear h hap hok hcell HP hP
  go_enter Try.func10, Try.ntmps10
  go_wp2_with fail
  refine (err_any (HB0.out.grew ((Grew.refl w).alloc _))).mono ?_
  rw [hs]
  rintro r w1 ⟨rfl, rfl⟩
  go_wp2_with fail
  refine (shaped_un _).mono ?_
  rintro r w1 ⟨rfl, hg⟩
  have hb : w1.heap[w.heap.size]? = some (.cells #[.int .i64 0, .int .i64 0, .int .u64 0] 28) := hg.heap (heap_alloc_new _ _)
  have HR := Lib.hid hb
  have HG : Hid (Grew w w1) := ((Grew.refl w).alloc _).trans hg
  have HSZ := Lib.hid hg.size
  clear hb hg
  go_wp2_with fail
  go_loopw [12, 13] (fun e i wr => ∃ k : Nat, k ≤ l.length ∧ i = .int .i64 k ∧ e = .int .i64 (eachL legalE 0 (l.take k)) ∧ Hid (Grew w wr ∧ wr.heap[w.heap.size]? = some (.cells #[.int .i64 0, .int .i64 0, .int .u64 0] 28) ∧ wr.cell? ⟨w1.heap.size, 0, none⟩ = some (.int .i64 10) ∧ wr.cell? ⟨w1.heap.size, 1, none⟩ = some (.bool true) ∧ wr.cell? ⟨w1.heap.size, 2, none⟩ = some (fnv 41 #[]) ∧ wr.cell? ⟨w1.heap.size, 3, none⟩ = some (fnv 42 #[]))) (fun _ i _ => l.length - (intOf i).toNat)
  case atStart =>
    refine ⟨0, Nat.zero_le _, rfl, rfl, ?_⟩
    show _ ∧ _
    exact ⟨HG.out.alloc _, ((Grew.refl w1).alloc _).heap HR.out, by go_simp, by go_simp, by go_simp, by go_simp⟩
  case round =>
    obtain ⟨k, hk, rfl, rfl, HW⟩ := hrel
    by_cases hlt : k < l.length
    · by_cases he : eachL legalE 0 (l.take k) = 0
      · obtain ⟨bl, off, rfl, q0, q1, q2⟩ := HC.out k l[k] (List.getElem?_eq_getElem hlt)
        have HSN := Lib.hid (eachL_snoc legalE 0 l k hlt he)
        have d0 := HW.out.1.cell q0
        have d1 := HW.out.1.cell q1
        have d2 := HW.out.1.cell q2
        have g2 := HW.out.2.2.2.2.1
        rw [he]
        generalize l[k] = v at *
        obtain ⟨ty, wd, vn⟩ := v
        simp only at d0 d1 d2
        clear q0 q1 q2
        go_wp2_with fail
        refine wp_region_tables Grew [[], [0], [], [], [2, 3], [4], [1, 5], [6]] [[(54, 2), (55, 3), (56, 4), (57, 5), (58, 6), (12, 7)], [(52, 0), (54, 2), (55, 3), (56, 4), (57, 5), (12, 7)], [(52, 0), (53, 1), (55, 3), (57, 5), (58, 6), (12, 7)], [(52, 0), (53, 1), (54, 2), (57, 5), (58, 6), (12, 7)], [(52, 0), (53, 1), (54, 2), (55, 3), (58, 6), (12, 7)], [(52, 0), (53, 1), (54, 2), (55, 3), (56, 4), (12, 7)], [(52, 0), (53, 1), (54, 2), (55, 3), (56, 4), (57, 5)], [(52, 0), (53, 1), (54, 2), (55, 3), (56, 4), (57, 5), (58, 6)]] [(52, 0), (53, 1), (54, 2), (55, 3), (56, 4), (57, 5), (58, 6), (12, 7)]
          [Is (.pointer (some ⟨w1.heap.size, 2, none⟩)), Is (fnv 41 #[]), Is (.slice (some ⟨bl, off, none⟩) l.length c), Is (.int .i64 k), Is (.pointer (some ⟨bl, off + k * 3, none⟩)), Is (.agg #[.int .i64 ty, .int .i64 wd, .int .u64 vn]), Is (.int .i64 (legalE (ty, wd, vn))), Is (.int .i64 (legalE (ty, wd, vn)))]
          (by kernel_rfl) Grew.trans Grew.refl (Grew.refl _).drew (by kernel_rfl) ⟨is_st, is_st, is_st, is_st, is_st, is_st, is_st, is_st, trivial⟩ ⟨?_, ?_, ?_, ?_, ?_, ?_, ?_, ?_, trivial⟩ rfl ?_
        · intro y w2 hG hD K hK
          simp only [fillL, Act.put, List.setIfInBounds_toArray, List.set_cons_zero, List.set_cons_succ, List.getD_cons_zero, List.getD_cons_succ, Is] at hK ⊢
          refine ite_yes (by rfl) ?_
          go_simp
          exact hK _ _ _ rfl (Grew.refl _) rfl
        · intro y w2 hG hD K hK
          simp only [depsH, List.getD_cons_zero, List.getD_cons_succ, Is, and_true] at hD
          have h0 := hD
          clear hD
          have dg2 := hG.cell g2
          have dd0 := hG.cell d0
          have dd1 := hG.cell d1
          have dd2 := hG.cell d2
          simp only [fillL, Act.put, List.setIfInBounds_toArray, List.set_cons_zero, List.set_cons_succ, List.getD_cons_zero, List.getD_cons_succ, Is] at hK ⊢
          rw [h0] at hK ⊢
          clear h0
          refine ite_yes (by rfl) ?_
          go_simp
          exact hK _ _ _ rfl (Grew.refl _) rfl
        · intro y w2 hG hD K hK
          simp only [fillL, Act.put, List.setIfInBounds_toArray, List.set_cons_zero, List.set_cons_succ, List.getD_cons_zero, List.getD_cons_succ, Is] at hK ⊢
          refine ite_yes (by rfl) ?_
          go_simp
          exact hK _ _ _ rfl (Grew.refl _) rfl
        · intro y w2 hG hD K hK
          simp only [fillL, Act.put, List.setIfInBounds_toArray, List.set_cons_zero, List.set_cons_succ, List.getD_cons_zero, List.getD_cons_succ, Is] at hK ⊢
          refine ite_yes (by rfl) ?_
          go_simp
          exact hK _ _ _ rfl (Grew.refl _) rfl
        · intro y w2 hG hD K hK
          simp only [depsH, List.getD_cons_zero, List.getD_cons_succ, Is, and_true] at hD
          have h2 := hD.1
          have h3 := hD.2
          clear hD
          simp only [fillL, Act.put, List.setIfInBounds_toArray, List.set_cons_zero, List.set_cons_succ, List.getD_cons_zero, List.getD_cons_succ, Is] at hK ⊢
          rw [h2, h3] at hK ⊢
          clear h2 h3
          refine ite_yes (by rfl) ?_
          go_simp
          exact hK _ _ _ rfl (Grew.refl _) rfl
        · intro y w2 hG hD K hK
          simp only [depsH, List.getD_cons_zero, List.getD_cons_succ, Is, and_true] at hD
          have h4 := hD
          clear hD
          have dg2 := hG.cell g2
          have dd0 := hG.cell d0
          have dd1 := hG.cell d1
          have dd2 := hG.cell d2
          simp only [fillL, Act.put, List.setIfInBounds_toArray, List.set_cons_zero, List.set_cons_succ, List.getD_cons_zero, List.getD_cons_succ, Is] at hK ⊢
          rw [h4] at hK ⊢
          clear h4
          refine ite_yes (by rfl) ?_
          go_simp
          exact hK _ _ _ rfl (Grew.refl _) rfl
        · intro y w2 hG hD K hK
          simp only [depsH, List.getD_cons_zero, List.getD_cons_succ, Is, and_true] at hD
          have h1 := hD.1
          have h5 := hD.2
          clear hD
          simp only [fillL, Act.put, List.setIfInBounds_toArray, List.set_cons_zero, List.set_cons_succ, List.getD_cons_zero, List.getD_cons_succ, Is] at hK ⊢
          rw [h1, h5] at hK ⊢
          clear h1 h5
          refine ite_yes (by rfl) ?_
          go_simp
          refine (legalV_any (ty, wd, vn) _).mono ?_
          rintro r w3 ⟨rfl, hg⟩
          exact hK _ _ _ rfl hg rfl
        · intro y w2 hG hD K hK
          simp only [depsH, List.getD_cons_zero, List.getD_cons_succ, Is, and_true] at hD
          have h6 := hD
          clear hD
          simp only [fillL, Act.put, List.setIfInBounds_toArray, List.set_cons_zero, List.set_cons_succ, List.getD_cons_zero, List.getD_cons_succ, Is] at hK ⊢
          rw [h6] at hK ⊢
          clear h6
          refine ite_yes (by rfl) ?_
          go_simp
          exact hK _ _ _ rfl (Grew.refl _) rfl
        · intro y w2 hG hF
          simp only [factsH, Is, and_true, Nat.reduceAdd] at hF
          have h0 := hF.1
          have h1 := hF.2.1
          have h2 := hF.2.2.1
          have h3 := hF.2.2.2.1
          have h4 := hF.2.2.2.2.1
          have h5 := hF.2.2.2.2.2.1
          have h6 := hF.2.2.2.2.2.2.1
          have h7 := hF.2.2.2.2.2.2.2
          clear hF
          simp only [fillL, Act.put, List.setIfInBounds_toArray, List.set_cons_zero, List.set_cons_succ, List.getD_cons_zero, List.getD_cons_succ, Is]
          rw [h0, h1, h2, h3, h4, h5, h6, h7]
          clear h0 h1 h2 h3 h4 h5 h6 h7
          have HG2 := Lib.hid (HW.out.1.trans hG)
          have HGG := Lib.hid hG
          clear hG
          go_wp2
          go_roundw
          case rel =>
            have hw := HW.out
            have hgg := HGG.out
            exact ⟨k + 1, by omega, by go_num, by rw [HSN.out], HG2.out, hgg.heap hw.2.1, hgg.cell hw.2.2.1, hgg.cell hw.2.2.2.1, hgg.cell hw.2.2.2.2.1, hgg.cell hw.2.2.2.2.2⟩
          case measure => simp [intOf]; omega
      · have hF : putF most legalE true true 10 0 l s = (((0, 0, 0), eachL legalE 0 (l.take k)), s) := by
          unfold putF
          rw [eachL_drop legalE 0 l k he, if_pos he]
        have HF := Lib.hid hF
        clear hF
        generalize eachL legalE 0 (l.take k) = e at *
        obtain ⟨hgw, hrow, _, _, _, _⟩ := HW.out
        have f0 := row_frozen hrow 0
        have f1 := row_frozen hrow 1
        have f2 := row_frozen hrow 2
        have c0 := row_cell hrow 0 _ rfl
        have c1 := row_cell hrow 1 _ rfl
        have c2 := row_cell hrow 2 _ rfl
        have HGW := Lib.hid hgw
        clear hrow hgw
        go_wp2
        refine bodyPost_ret (v := putV ((0, 0, 0), e)) ?_ rfl ⟨?_, ?_⟩
        · simp [results, Try.results10, go_sem, c0, c1, c2, putV, vV]
        · rw [← HPP.out, HF.out]
        · rw [← HPP.out, HF.out]
          exact (TurnB.refl HB0.out).grew ((((HGW.out).setCell (Nat.le_refl _) _).setCell (Nat.le_refl _) _).setCell (Nat.le_refl _) _)
    · have ek : k = l.length := by omega
      rw [ek, List.take_length]
      by_cases he : eachL legalE 0 l = 0
      · rw [he]
        clear hlt
        obtain ⟨hgw, hrow, g0, g1, g2, g3⟩ := HW.out
        have HGW := Lib.hid hgw
        have HROW := Lib.hid hrow
        clear hrow hgw HW
        go_wp2_with fail
        refine (len_any (HB0.out.grew HGW.out)).mono ?_
        rintro r w3 ⟨rfl, rfl⟩
        go_wp2_with fail
        refine (Ft.all_any l (0, 0, 0) _ 1 _ _ (by omega) HOK.out ok0 (HV.out.grew HGW.out)).mono ?_
        rintro r w3 ⟨rfl, hg⟩
        have HG3 := Lib.hid (HGW.out.trans hg)
        have HROW3 := Lib.hid (hg.heap HROW.out)
        replace g0 := hg.cell g0
        replace g1 := hg.cell g1
        replace g3 := hg.cell g3
        clear hg g2
        by_cases hx : allF l (0, 0, 0) s.1.length 1 = 0
        · have hF : putF most legalE true true 10 0 l s = (((0, 0, 0), 211), s) := by
            unfold putF
            rw [if_neg (by simpa using he)]
            simp [hx]
          have HF := Lib.hid hF
          clear hF
          rw [hx]
          have hrow := HROW3.out
          have f0 := row_frozen hrow 0
          have f1 := row_frozen hrow 1
          have f2 := row_frozen hrow 2
          have c0 := row_cell hrow 0 _ rfl
          have c1 := row_cell hrow 1 _ rfl
          have c2 := row_cell hrow 2 _ rfl
          clear hrow
          go_wp2
          refine bodyPost_ret (v := putV ((0, 0, 0), 211)) ?_ rfl ⟨?_, ?_⟩
          · simp [results, Try.results10, go_sem, c0, c1, c2, putV, vV]
          · rw [← HPP.out, HF.out]
          · rw [← HPP.out, HF.out]
            exact (TurnB.refl HB0.out).grew ((((HG3.out).setCell (Nat.le_refl _) _).setCell (Nat.le_refl _) _).setCell (Nat.le_refl _) _)
        · have HX := Lib.hid (allF_isW hx)
          have HXE := Lib.hid (rfl : allF l (0, 0, 0) s.1.length 1 = allF l (0, 0, 0) s.1.length 1)
          have HF : Hid (∀ x, allF l (0, 0, 0) s.1.length 1 = x → x ≠ 0 → putF most legalE true true 10 0 l s = if (tagsS most x l (elemsS most x l (numS most x l.length (alignS most x s)))).2 ≠ 0 then (((0, 0, 0), (tagsS most x l (elemsS most x l (numS most x l.length (alignS most x s)))).2), tagsS most x l (elemsS most x l (numS most x l.length (alignS most x s)))) else (((10, x, ((numS most x l.length (alignS most x s)).1.length : Int)), 0), tagsS most x l (elemsS most x l (numS most x l.length (alignS most x s))))) := by
            show ∀ x, _ = x → _
            intro x hx hx0
            unfold putF
            rw [if_neg (by simpa using he)]
            simp only [if_true]
            rw [hx, if_neg hx0]
          replace HF := Lib.hid (HF.out _ rfl hx)
          have M3 : Mid B w p o most (.slice a l.length c) l w.heap.size w1.heap.size 10 true (fnv 42 #[]) s o w3 := by
            have hs3 := HG3.out.size
            have hlt1 := lt_of_cell g0
            have hb0 := HB0.out.lt
            have hs1 := HG.out.size
            refine ⟨HB0.out.grew HG3.out, Next.refl _ _, Moved.of_grew HG3.out, ?_, HV.out.grew HG3.out, HROW3.out, g0, g1, g3⟩
            rintro b (rfl | rfl | ⟨ad, n, c', e, rfl⟩)
            · exact ⟨by simp at hlt1; omega, fun h => by have := hb0 _ h; omega⟩
            · exact ⟨by simpa using hlt1, fun h => by have := hb0 _ h; omega⟩
            · have := HA.out ad n c' e
              exact ⟨by omega, this.2⟩
          have HM3 := Lib.hid M3
          have HB3 : B ≤ w3.heap.size := Nat.le_trans hB HG3.out.size
          clear M3 HXE g0 g1 g3 HROW3 HROW HG3 HGW
          generalize allF l (0, 0, 0) s.1.length 1 = x at *
          go_wp2_with fail
          refine (align_any s x HM3.out.1 HB3 hl hm1).mono ?_
          rintro r w4 ⟨rfl, ht⟩
          have HB4 : B ≤ w4.heap.size := by obtain ⟨_, _, _, m⟩ := ht; exact Nat.le_trans HB3 m.size
          obtain ⟨o4, m4⟩ := HM3.out.step ht
          have g1 := m4.2.2.2.2.2.2.2.1
          have HM4 := Lib.hid m4
          clear ht m4
          go_wp2_with fail
          refine (num_any (alignS most x s) x (l.length : Int) HM4.out.1 HB4 (alignS_le hl) hm1 (by omega) (by omega)).mono ?_
          rintro r w5 ⟨rfl, ht⟩
          have HB5 : B ≤ w5.heap.size := by obtain ⟨_, _, _, m⟩ := ht; exact Nat.le_trans HB4 m.size
          obtain ⟨o5, m5⟩ := HM4.out.step ht
          have HM5 := Lib.hid m5
          clear ht m5 g1
          go_wp2_with fail
          refine (len_any HM5.out.1).mono ?_
          rintro r w6 ⟨rfl, rfl⟩
          go_wp2_with fail
          refine (elements_any (numS most x l.length (alignS most x s)) x _ l HX.out HM5.out.1 HB5 (numS_le (alignS_le hl)) hm1 HM5.out.2.2.2.2.1 hlen HOK.out (fun ad n c' e => (HM5.out.2.2.2.1 _ (.inr (.inr ⟨ad, n, c', e, rfl⟩))).2)).mono ?_
          rintro r w6 ⟨rfl, ht⟩
          have HB6 : B ≤ w6.heap.size := by obtain ⟨_, _, _, m⟩ := ht; exact Nat.le_trans HB5 m.size
          obtain ⟨o6, m6⟩ := HM5.out.step ht
          have g3 := m6.2.2.2.2.2.2.2.2
          have HM6 := Lib.hid m6
          clear ht m6
          go_wp2_with fail
          refine (tags_any (elemsS most x l (numS most x l.length (alignS most x s))) x _ l HM6.out.1 HB6 (elemsS_le l (numS_le (alignS_le hl))) hm1 HM6.out.2.2.2.2.1 hlen (fun ad n c' e => (HM6.out.2.2.2.1 _ (.inr (.inr ⟨ad, n, c', e, rfl⟩))).2)).mono ?_
          rintro r w7 ⟨rfl, ht⟩
          obtain ⟨o7, m7⟩ := HM6.out.step ht
          have g0 := m7.2.2.2.2.2.2.1
          have hrow := m7.2.2.2.2.2.1
          have HM7 := Lib.hid m7
          clear ht m7 g3
          go_wp2_with fail
          refine (err_any HM7.out.1).mono ?_
          rintro r w8 ⟨rfl, rfl⟩
          have hn2 := numS_le (x := x) (u := (l.length : Int)) (alignS_le (x := x) hl)
          by_cases hz : (tagsS most x l (elemsS most x l (numS most x l.length (alignS most x s)))).2 = 0
          · have HF2 : Hid (putF most legalE true true 10 0 l s = (((10, x, ((numS most x l.length (alignS most x s)).1.length : Int)), 0), (tagsS most x l (elemsS most x l (numS most x l.length (alignS most x s)))))) := HF.out.trans (if_neg (by simpa using hz))
            rw [hz]
            clear HF hz HM3 HM4 HM5 HM6
            generalize (tagsS most x l (elemsS most x l (numS most x l.length (alignS most x s)))) = sf at *
            generalize numS most x l.length (alignS most x s) = s2 at *
            have f0 := row_frozen hrow 0
            have f1 := row_frozen hrow 1
            have f2 := row_frozen hrow 2
            have c0 := row_cell hrow 0 _ rfl
            have c1 := row_cell hrow 1 _ rfl
            have c2 := row_cell hrow 2 _ rfl
            clear hrow
            go_wp2
            refine bodyPost_ret (v := putV ((10, x, (s2.1.length : Int)), 0)) ?_ rfl ⟨?_, ?_⟩
            · simp [results, Try.results10, go_sem, c0, c1, c2, putV, vV]
            · rw [← HPP.out, HF2.out]
            · rw [← HPP.out, HF2.out]
              exact HM7.out.turnSet (Nat.le_refl _) _ _ _
          · have HF2 : Hid (putF most legalE true true 10 0 l s = (((0, 0, 0), (tagsS most x l (elemsS most x l (numS most x l.length (alignS most x s)))).2), (tagsS most x l (elemsS most x l (numS most x l.length (alignS most x s)))))) := HF.out.trans (if_pos (by simpa using hz))
            clear HF HM3 HM4 HM5 HM6
            generalize (tagsS most x l (elemsS most x l (numS most x l.length (alignS most x s)))) = sf at *
            have f0 := row_frozen hrow 0
            have f1 := row_frozen hrow 1
            have f2 := row_frozen hrow 2
            have c0 := row_cell hrow 0 _ rfl
            have c1 := row_cell hrow 1 _ rfl
            have c2 := row_cell hrow 2 _ rfl
            clear hrow
            go_wp2
            refine bodyPost_ret (v := putV ((0, 0, 0), sf.2)) ?_ rfl ⟨?_, ?_⟩
            · simp [results, Try.results10, go_sem, c0, c1, c2, putV, vV]
            · rw [← HPP.out, HF2.out]
            · rw [← HPP.out, HF2.out]
              exact HM7.out.turnSet (Nat.le_refl _) _ _ _
      · have hF : putF most legalE true true 10 0 l s = (((0, 0, 0), eachL legalE 0 l), s) := by
          unfold putF
          rw [if_pos he]
        have HF := Lib.hid hF
        clear hF
        generalize eachL legalE 0 l = e at *
        obtain ⟨hgw, hrow, _, _, _, _⟩ := HW.out
        have f0 := row_frozen hrow 0
        have f1 := row_frozen hrow 1
        have f2 := row_frozen hrow 2
        have c0 := row_cell hrow 0 _ rfl
        have c1 := row_cell hrow 1 _ rfl
        have c2 := row_cell hrow 2 _ rfl
        have HGW := Lib.hid hgw
        clear hrow hgw
        go_wp2
        refine bodyPost_ret (v := putV ((0, 0, 0), e)) ?_ rfl ⟨?_, ?_⟩
        · simp [results, Try.results10, go_sem, c0, c1, c2, putV, vV]
        · rw [← HPP.out, HF.out]
        · rw [← HPP.out, HF.out]
          exact (TurnB.refl HB0.out).grew ((((HGW.out).setCell (Nat.le_refl _) _).setCell (Nat.le_refl _) _).setCell (Nat.le_refl _) _)
end Go.Proofs.Ytaoflhddcbmacaa
