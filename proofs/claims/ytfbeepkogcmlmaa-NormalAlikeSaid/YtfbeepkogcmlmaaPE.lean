/-
  Texts of the proof, part 5 of 8.
-/
import Derived.Test.YtfbeepkogcmlmaaPD
import Derived.Deep.CutBlock
import Derived.Deep.DeepCutAuto

/-
  Normal forms: the normal form of a sorted tree, in place (of). Conditions: the tree is one's own.
-/
namespace Go.Proofs.Ytfbeepkogcmlmaa
open Go Go.ChangeShapes Go.WideShapes Go.ChangeAt Go.RowKit Go.Joins Go.Deep
set_option linter.unusedVariables false
set_option linter.unusedSimpArgs false

/-- What a node becomes when its children are in their form. -/
def formN (k n u : Int) (s : ByteArray) (keys : List ByteArray) (l : List Tr) : Tr :=
  if k = 4 ∨ k = 9 then (if u < 9223372036854775808 then .mk 3 u 0 ⟨#[]⟩ [] [] else .mk 4 0 u ⟨#[]⟩ [] [])
  else if k = 8 then .mk 3 n 0 ⟨#[]⟩ [] []
  else if k = 5 then .mk 6 0 0 s [] []
  else if 11 ≤ k ∧ k ≤ 16 then .mk 10 0 0 ⟨#[]⟩ [] l
  else .mk k n u s keys l
mutual
/-- The normal form of a sorted tree. -/
def ofT : Tr → Tr | .mk k n u s keys l => formN k n u s keys (ofL l)
def ofL : List Tr → List Tr | [] => [] | t :: r => ofT t :: ofL r
end
theorem ofL_map : ∀ l : List Tr, ofL l = l.map ofT
  | [] => rfl
  | t :: r => by simp [ofL, ofL_map r]
/-- What the call has left: the child in its form, its blocks. -/
def DoneF (f : Tr → Tr) (W B : Nat) (Sx : Nat → Prop) (gL n c q : Nat) (VV : List Value) (x : Tr) (y : Value) (w : World) : Prop :=
  W < w.heap.size ∧ (∃ Sy, OwnT w B (f x) y Sy ∧ ∀ g, Sy g → Sx g ∨ (W ≤ g ∧ g < w.heap.size)) ∧ ∃ z, OwnN w B (.slice (some ⟨gL, 0, none⟩) n c) (VV.set q z)
theorem DoneF.step {f : Tr → Tr} {W B : Nat} {Sx : Nat → Prop} {gL n c q : Nat} {VV : List Value} {x : Tr} {y : Value} (hq : q < VV.length) (hL : ¬ Sx gL ∧ gL < W) {i : Nat} (hi : i ≠ 4) {w w' : World} (ht : stepS W B Sx gL n c q i w w') (h : DoneF f W B Sx gL n c q VV x y w) : DoneF f W B Sx gL n c q VV x y w' := by
  rcases ht with rfl | ⟨e, _⟩ | ⟨_, hW, hsz, hm, u, hu, hst⟩
  · exact h
  · exact absurd e hi
  · obtain ⟨h1, ⟨Sy, ho, hs⟩, z, hz⟩ := h
    refine ⟨by omega, ⟨Sy, ho.kept hm (fun g hg e => ?_), fun g hg => (hs g hg).imp id fun h => ⟨h.1, by omega⟩⟩, u, ?_⟩
    · subst e
      rcases hs _ hg with h | h
      · exact hL.1 h
      · omega
    · have := hst _ (by rw [List.length_set]; exact hq) hz
      rwa [List.set_set] at this
/-- Between two rounds of the loop over the children: the first q are in their form. -/
def LoopF (f : Tr → Tr) (wc wr : World) (B : Nat) (S' : Nat → Prop) (lv : Value) (l : List Tr) (q : Nat) : Prop :=
  ∃ vs1 vs2 S1 S2, vs1.length = q ∧ OwnN wr B lv (vs1 ++ vs2) ∧ KidsO wr B ((l.take q).map f) vs1 S1 ∧ KidsO wr B (l.drop q) vs2 S2 ∧ (∀ g, S1 g → ¬ S2 g) ∧ (∀ g, S1 g → S' g ∨ Fresh wc wr g) ∧ (∀ g, S2 g → S' g) ∧
    Moved (fun g => S' g ∨ lv.ownBlock = some g) wc wr
theorem ofL_len : ∀ l : List Tr, (ofL l).length = l.length := fun l => by rw [ofL_map, List.length_map]
/-- Where the loop has ended. -/
theorem of_end {w wc wr : World} {B N : Nat} {S S' : Nat → Prop} {keys : List ByteArray} {l : List Tr} {kv lv : Value} (hN : w.heap.size = N) (hgw : Grew w wc) (hkv : OwnS wc B kv keys) (hlvb : ∀ g, lv.ownBlock = some g → g < wc.heap.size)
    (hk3 : ∀ g, kv.ownBlock = some g → (S g ∨ Fresh w wc g) ∧ ¬ S' g ∧ lv.ownBlock ≠ some g) (hl3 : ∀ g, lv.ownBlock = some g → (S g ∨ Fresh w wc g) ∧ ¬ S' g ∧ g ≠ N ∧ g ≠ N + 1)
    (hS' : ∀ g, S' g → S g) (hSw : ∀ g, S g → g < w.heap.size) (hlN : N + 1 < wc.heap.size) (hL : LoopF ofT wc wr B S' lv l l.length) :
    ∃ S1 vs1, Moved S w wr ∧ OwnN wr B lv vs1 ∧ KidsO wr B (ofL l) vs1 S1 ∧ (∀ g, kv.ownBlock = some g → ¬ S1 g) ∧ (∀ g, lv.ownBlock = some g → ¬ S1 g) ∧ (∀ g, S1 g → (S g ∨ Fresh w wr g) ∧ g ≠ N + 1) ∧ wc.heap.size ≤ wr.heap.size := by
  obtain ⟨vs1, vs2, S1, S2, hq1, hrow, hk1, hk2, hdis, hs1, hs2, hm⟩ := hL
  rw [List.drop_length] at hk2
  simp only [KidsO] at hk2
  subst hk2
  rw [List.take_length, ← ofL_map] at hk1
  rw [List.append_nil] at hrow
  have hsz1 := hgw.size
  have hsz2 := hm.size
  have hkb : ∀ g, kv.ownBlock = some g → g < wc.heap.size := fun g hg => (World.ownsRow.lt hkv g hg).2
  refine ⟨S1, vs1, ?_, hrow, hk1, fun g hg h => ?_, fun g hg h => ?_, fun g h => ?_, hsz2⟩
  · refine (Moved.of_grew hgw).trans hm (fun j hj h => ?_)
    rcases h with h | h
    · exact hS' j h
    · rcases (hl3 j h).1 with e | e
      · exact e
      · have := e.1; omega
  · rcases hs1 g h with e | e
    · exact (hk3 g hg).2.1 e
    · have := hkb g hg; have := e.1; omega
  · rcases hs1 g h with e | e
    · exact (hl3 g hg).2.1 e
    · have := hlvb g hg; have := e.1; omega
  · rcases hs1 g h with e | e
    · exact ⟨.inl (hS' g e), by have := hSw g (hS' g e); omega⟩
    · exact ⟨.inr ⟨by have := e.1; omega, e.2⟩, by have := e.1; omega⟩
/-- The result in its variable. -/
theorem of_fin {w wr w5 : World} {B N : Nat} {S S2 : Nat → Prop} {T : Tr} {v : Value} {c0 c1 c2 c3 c4 c5 : Value} (hN : w.heap.size = N) (hm : Moved S w wr) (hs : N + 1 < wr.heap.size) (ho : OwnT wr B T v S2) (h2 : ∀ g, S2 g → (S g ∨ Fresh w wr g) ∧ g ≠ N + 1) (hg : Grew wr w5) :
    ∃ S3, OwnT (store6 w5 (N + 1) c0 c1 c2 c3 c4 c5) B T v S3 ∧ Moved S w (store6 w5 (N + 1) c0 c1 c2 c3 c4 c5) ∧ w.heap.size < (store6 w5 (N + 1) c0 c1 c2 c3 c4 c5).heap.size ∧ ∀ g, S3 g → S g ∨ Fresh w (store6 w5 (N + 1) c0 c1 c2 c3 c4 c5) g := by
  have hT : Moved (fun k => k = N + 1) w5 (store6 w5 (N + 1) c0 c1 c2 c3 c4 c5) := moved_store6 w5 (N + 1) c0 c1 c2 c3 c4 c5
  generalize store6 w5 (N + 1) c0 c1 c2 c3 c4 c5 = W at *
  have h5 := hg.size
  have h6 := hT.size
  refine ⟨S2, (ho.grew hg).kept hT (fun g hg' e => (h2 g hg').2 e), (hm.grew hg).trans hT (fun j hj h => by omega), by omega, fun g hg' => ?_⟩
  exact (h2 g hg').1.imp id fun e => ⟨e.1, by have := e.2; omega⟩
theorem own_leaf {w : World} {B : Nat} {k n u : Int} {s : ByteArray} (h : i64ok k ∧ i64ok n ∧ u64ok u ∧ lenok s.size) : OwnT w B (.mk k n u s [] []) (.agg #[.int .i64 k, .int .i64 n, .int .u64 u, .string s, .slice none 0 0, .slice none 0 0]) (fun _ => False) :=
  ⟨⟨h.1, h.2.1, h.2.2.1, h.2.2.2, by simp⟩, _, _, [], fun _ => False, rfl, OwnS.nil _ _, OwnN.nil _ _, fun g h => (by cases h), fun g h => (by cases h), fun g h => (by cases h), fun g h => h, rfl⟩
theorem find_none {k : Int} (h4 : ¬ k = 4) (h9 : ¬ k = 9) (h8 : ¬ k = 8) (h5 : ¬ k = 5) (h : ¬ (11 ≤ k ∧ k ≤ 16)) : findI k formsL 0 = none := by
  simp only [formsL, findI]
  rw [if_neg h4, if_neg h9, if_neg h8, if_neg h5, if_neg (by omega), if_neg (by omega), if_neg (by omega), if_neg (by omega), if_neg (by omega), if_neg (by omega)]
theorem eqfn_nil (w : World) : (Op.equal 27 .nilFunc .nilFunc).run Try.prog w = .ok true w := by
  have h := Try.underlying27
  unfold Op.equal
  rw [show Op.maxDepth = 9999 + 1 from rfl]
  unfold Op.equalIn
  simp only [Sem.run_bind, run_underlying h, Result.andThen]
  rfl
theorem eqfn_fn (f : Nat) (w : World) : (Op.equal 27 (.func (.func f) #[] #[]) .nilFunc).run Try.prog w = .ok false w := by
  have h := Try.underlying27
  unfold Op.equal
  rw [show Op.maxDepth = 9999 + 1 from rfl]
  unfold Op.equalIn
  simp only [Sem.run_bind, run_underlying h, Result.andThen]
  rfl
theorem ne_nil (w : World) : (binOp .neq 27 .nilFunc .nilFunc).run Try.prog w = .ok (.bool false) w := by
  have h := eqfn_nil w
  simp only [binOp, Sem.run_bind, h, Result.andThen_ok, Sem.run_pure]
  rfl
theorem ne_fn (f : Nat) (w : World) : (binOp .neq 27 (.func (.func f) #[] #[]) .nilFunc).run Try.prog w = .ok (.bool true) w := by
  have h := eqfn_fn f w
  simp only [binOp, Sem.run_bind, h, Result.andThen_ok, Sem.run_pure]
  rfl
set_option maxRecDepth 100000 in
set_option maxHeartbeats 4000000 in
theorem of_any : ∀ (m : Nat) (t : Tr), t.size ≤ m → Few t → ∀ (v : Value) (w : World) (B b : Nat) (S : Nat → Prop), OwnT w B t v S → B ≤ w.heap.size → (∀ g, S g → g < w.heap.size) → MapI w b formsL → ¬ S b →
    Calls Try.prog 28 #[v, .map (some b)] w fun r w' => ∃ v' S', r = .returned v' ∧ OwnT w' B (ofT t) v' S' ∧ Moved S w w' ∧ w.heap.size < w'.heap.size ∧ ∀ g, S' g → S g ∨ Fresh w w' g := by
  intro m
  induction m with
  | zero => intro t ht; have := t.size_pos; omega
  | succ m ih =>
  intro t ht hok v w B b S hown hBw hSw hmap hSb
  obtain ⟨k, n, u, s, keys, l⟩ := t
  simp only [OwnT] at hown
  obtain ⟨hb, kv, lv, vs, S', rfl, hkv, hlv, d1, d2, d3, d4, hkids⟩ := hown
  have hkl : vs.length = l.length := hkids.length
  simp only [Few] at hok
  obtain ⟨hok2, hok3, hok4⟩ := hok
  have hsz : ∀ x ∈ l, x.size ≤ m := fun x hx => by have := size_mem hx; simp only [Tr.size] at ht; omega
  have HIH := Lib.hid ih
  have HB := Lib.hid hb
  have HOWN := Lib.hid (And.intro hkv (And.intro hlv hkids))
  have HD := Lib.hid (And.intro d1 (And.intro d2 (And.intro d3 d4)))
  have HOK := Lib.hid hok4
  have HSZ := Lib.hid hsz
  have HBW := Lib.hid hBw
  have HSW := Lib.hid hSw
  have HMAP := Lib.hid (And.intro hmap hSb)
  obtain ⟨a4, c4, rfl, hx1, hx2, hx3⟩ := rows_form hkv
  obtain ⟨a5, c5, rfl, hx4, hx5, hx6⟩ := rows_form hlv.1
  clear ih hb hkv hlv hkids d1 d2 d3 d4 hok4 hsz hBw hSw hx1 hx2 hx3 hx4 hx5 hx6 ht hmap hSb
  rw [hkl] at HOWN HD ⊢
  have HKL := Lib.hid hkl
  clear hkl
  go_enter Try.func28, Try.ntmps28
  go_upto_block 0 with fail
  have hb1 := heap_alloc_new w (.cells #[.int .i64 k, .int .i64 n, .int .u64 u, .string s, .slice a4 keys.length c4, .slice a5 l.length c5] 26)
  have hg1 := (Grew.refl w).alloc (.cells #[.int .i64 k, .int .i64 n, .int .u64 u, .string s, .slice a4 keys.length c4, .slice a5 l.length c5] 26)
  have hs1 : (w.alloc (.cells #[.int .i64 k, .int .i64 n, .int .u64 u, .string s, .slice a4 keys.length c4, .slice a5 l.length c5] 26)).heap.size = w.heap.size + 1 := World.size_alloc _ _
  generalize (w.alloc (.cells #[.int .i64 k, .int .i64 n, .int .u64 u, .string s, .slice a4 keys.length c4, .slice a5 l.length c5] 26)) = w1 at *
  have hb2 := heap_alloc_new w1 (.cells #[.int .i64 0, .int .i64 0, .int .u64 0, .string ⟨#[]⟩, .slice none 0 0, .slice none 0 0] 26)
  have hg2 := (Grew.refl w1).alloc (.cells #[.int .i64 0, .int .i64 0, .int .u64 0, .string ⟨#[]⟩, .slice none 0 0, .slice none 0 0] 26)
  rw [hs1] at hb2
  generalize (w1.alloc (.cells #[.int .i64 0, .int .i64 0, .int .u64 0, .string ⟨#[]⟩, .slice none 0 0, .slice none 0 0] 26)) = wc at *
  replace hb1 := hg2.heap hb1
  have hG := hg1.trans hg2
  obtain ⟨N, hN⟩ : ∃ N, w.heap.size = N := ⟨_, rfl⟩
  have HN := Lib.hid hN
  rw [hN] at hb1 hb2 ⊢
  have HBN := Lib.hid hb1
  have HBR := Lib.hid hb2
  have HGW := Lib.hid hG
  have HKV := Lib.hid (HOWN.out.1.grew hG)
  have HLV := Lib.hid (HOWN.out.2.1.grew hG)
  have HKD := Lib.hid (HOWN.out.2.2.grew hG)
  have HK3 : Hid (∀ g, (Value.slice a4 keys.length c4).ownBlock = some g → (S g ∨ Fresh w wc g) ∧ ¬ S' g ∧ (Value.slice a5 l.length c5).ownBlock ≠ some g) := fun g hg => ⟨.inl (HD.out.1 g hg).1, (HD.out.1 g hg).2, HD.out.2.2.1 g hg⟩
  have HL3 : Hid (∀ g, (Value.slice a5 l.length c5).ownBlock = some g → (S g ∨ Fresh w wc g) ∧ ¬ S' g ∧ g ≠ N ∧ g ≠ N + 1) := fun g hg => ⟨.inl (HD.out.2.1 g hg).1, (HD.out.2.1 g hg).2, by have := HSW.out g (HD.out.2.1 g hg).1; omega, by have := HSW.out g (HD.out.2.1 g hg).1; omega⟩
  clear hs1 hg1 hg2 hG hN hb1 hb2 hok2
  go_wp2_with fail
  go_loopw [11] (fun i wr => ∃ q : Nat, q ≤ l.length ∧ i = .int .i64 q ∧ Hid (LoopF ofT wc wr B S' (.slice a5 l.length c5) l q)) (fun i _ => l.length - (intOf i).toNat)
  case atStart =>
    refine ⟨0, Nat.zero_le _, rfl, ?_⟩
    exact ⟨[], vs, fun _ => False, S', rfl, HLV.out, by simp [KidsO], by simpa using HKD.out, fun _ h => h.elim, fun _ h => h.elim, fun _ h => h, Moved.refl _ _⟩
  case round =>
    obtain ⟨q, hq, rfl, HW⟩ := hrel
    have HWF : Hid (wr.heap[N]? = some (.cells #[.int .i64 k, .int .i64 n, .int .u64 u, .string s, .slice a4 keys.length c4, .slice a5 l.length c5] 26 (0, 0)) ∧ wr.heap[N + 1]? = some (.cells #[.int .i64 0, .int .i64 0, .int .u64 0, .string ⟨#[]⟩, .slice none 0 0, .slice none 0 0] 26 (0, 0)) ∧ OwnS wr B (.slice a4 keys.length c4) keys) := by
      obtain ⟨_, _, _, _, _, _, _, _, _, _, _, hm⟩ := HW.out
      have hS := HSW.out
      have hS' := HD.out.2.2.2
      have hN := HN.out
      refine ⟨hm.heap HBN.out ?_, hm.heap HBR.out ?_, Moved.owns hm HKV.out ?_⟩
      · rintro (h | h)
        · have := hS _ (hS' _ h); omega
        · exact (HL3.out _ h).2.2.1 rfl
      · rintro (h | h)
        · have := hS _ (hS' _ h); omega
        · exact (HL3.out _ h).2.2.2 rfl
      · rintro g hg (h | h)
        · exact (HK3.out g hg).2.1 h
        · exact (HK3.out g hg).2.2 h
    by_cases hlt : q < l.length
    · obtain ⟨vs1, vs2, S1, S2, hq1, hrow, hk1, hk2, hdis, hs1, hs2, hm⟩ := HW.out
      obtain ⟨x, hx⟩ : ∃ x, l[q]? = some x := ⟨_, List.getElem?_eq_getElem hlt⟩
      obtain ⟨hx0, hx1⟩ := List.getElem?_eq_some_iff.1 hx
      have hdrop : l.drop q = x :: l.drop (q + 1) := by rw [List.drop_eq_getElem_cons hlt, hx1]
      rw [hdrop] at hk2
      simp only [KidsO] at hk2
      obtain ⟨xv, vr, Sx, Sr, rfl, hSx, hSr, hxr, hox, hkr⟩ := hk2
      have hxm : x ∈ l := List.mem_of_getElem? hx
      obtain ⟨gL, rfl⟩ : ∃ g, a5 = some ⟨g, 0, none⟩ := by
        rcases hrow.1.2 with ⟨e, hn⟩ | ⟨g, cap, cur, e, _⟩
        · simp at hn
        · injection e with e1 _ _; exact ⟨g, e1⟩
      have hVl : (vs1 ++ xv :: vr).length = l.length := by
        obtain ⟨_, _, e, _⟩ := rows_form hrow.1
        injection e with _ e2 _
        exact e2.symm
      have hVq : (vs1 ++ xv :: vr)[q]? = some xv := by rw [List.getElem?_append_right (by omega), hq1, Nat.sub_self]; rfl
      have h6 := hox.node6
      have hc6 := hrow.at hVq
      have HROW := Lib.hid hrow
      have HQV := Lib.hid (And.intro hq1 (And.intro hVl hVq))
      have HOX := Lib.hid hox
      have HK12 := Lib.hid (And.intro hk1 hkr)
      have HSS := Lib.hid (And.intro hdis (And.intro hs1 (And.intro hs2 (And.intro hSx (And.intro hSr hxr)))))
      have HM := Lib.hid hm
      have HTK : Hid ((l.take (q + 1)).map ofT = (l.take q).map ofT ++ [ofT x]) := by
        show _ = _
        rw [List.take_add_one, hx, List.map_append]; rfl
      have HXZ := Lib.hid (And.intro (HSZ.out x hxm) (FewL.mem HOK.out hxm))
      clear hq1 hVl hVq hrow hox hk1 hkr hdis hs1 hs2 hSx hSr hxr hm hx hx0 hx1 hdrop hxm HW
      obtain ⟨yk, yn, yu, ys, ya4, yn4, yc4, ya5, yn5, yc5, rfl⟩ := h6
      obtain ⟨e0, e1, e2, e3, e4, e5⟩ := hc6.get
      have d5 := row_cellT HWF.out.1 5 _ rfl
      have hlti : (q : Int) < l.length := by omega
      clear hc6
      go_wp2_with fail
      have hbs := heap_alloc_new wr (.cells #[.int .i64 yk, .int .i64 yn, .int .u64 yu, .string ys, .slice ya4 yn4 yc4, .slice ya5 yn5 yc5] 26)
      have hgs := (Grew.refl wr).alloc (.cells #[.int .i64 yk, .int .i64 yn, .int .u64 yu, .string ys, .slice ya4 yn4 yc4, .slice ya5 yn5 yc5] 26)
      generalize (wr.alloc (.cells #[.int .i64 yk, .int .i64 yn, .int .u64 yu, .string ys, .slice ya4 yn4 yc4, .slice ya5 yn5 yc5] 26)) = ws at *
      replace d5 := hgs.cell d5
      obtain ⟨NB, hNB⟩ : ∃ NB, wr.heap.size = NB := ⟨_, rfl⟩
      rw [hNB] at hbs ⊢
      have b0 := row_cellT hbs 0 _ rfl
      have b1 := row_cellT hbs 1 _ rfl
      have b2 := row_cellT hbs 2 _ rfl
      have b3 := row_cellT hbs 3 _ rfl
      have b4 := row_cellT hbs 4 _ rfl
      have b5 := row_cellT hbs 5 _ rfl
      have HGS := Lib.hid (And.intro hgs (And.intro hNB hbs))
      have HROWS := Lib.hid (HROW.out.grew hgs)
      have HOXS := Lib.hid (HOX.out.grew hgs)
      obtain ⟨VV, hVV⟩ : ∃ VV, vs1 ++ .agg #[.int .i64 yk, .int .i64 yn, .int .u64 yu, .string ys, .slice ya4 yn4 yc4, .slice ya5 yn5 yc5] :: vr = VV := ⟨_, rfl⟩
      have HVV := Lib.hid hVV
      rw [hVV] at HROWS
      have HQ2 : Hid (q < VV.length ∧ VV[q]? = some (.agg #[.int .i64 yk, .int .i64 yn, .int .u64 yu, .string ys, .slice ya4 yn4 yc4, .slice ya5 yn5 yc5])) := by
        have := HQV.out
        rw [hVV] at this
        exact ⟨by omega, this.2.2⟩
      have HSB : Hid ((∀ g, Sx g → g < wr.heap.size) ∧ ¬ Sx gL ∧ ¬ Sx N ∧ ¬ Sx NB ∧ gL ≠ N ∧ gL ≠ NB ∧ gL < wr.heap.size) := by
        have hS := HSW.out
        have hS' := HD.out.2.2.2
        have hN := HN.out
        have hL := HL3.out gL rfl
        have hlt := (World.ownsRow.lt HROW.out.1 gL rfl).2
        have hsx : ∀ g, Sx g → g < w.heap.size := fun g h => hS _ (hS' _ (HSS.out.2.2.1 _ (HSS.out.2.2.2.1 _ h)))
        have hNw : N < wr.heap.size := (Array.getElem?_eq_some_iff.1 HWF.out.1).1
        refine ⟨fun g h => ?_, fun h => ?_, fun h => ?_, fun h => ?_, hL.2.2.1, by omega, hlt⟩
        · have := hsx g h; omega
        · exact hL.2.1 (HSS.out.2.2.1 _ (HSS.out.2.2.2.1 _ h))
        · have := hsx _ h; omega
        · have := hsx _ h; omega
      have HGWR : Hid (w.heap.size ≤ wr.heap.size) := Nat.le_trans HGW.out.size HM.out.size
      clear hVV hbs hgs hNB e0 e1 e2 e3 e4 e5
      have n1 : ¬ (Sx N ∨ N = gL) := by have h := HSB.out; rintro (e | e); exact h.2.2.1 e; exact h.2.2.2.2.1 e.symm
      have n2 : ¬ (Sx NB ∨ NB = gL) := by have h := HSB.out; rintro (e | e); exact h.2.2.2.1 e; exact h.2.2.2.2.2.1 e.symm
      have HMW : Hid (MapI ws b formsL ∧ ¬ (Sx b ∨ b = gL)) := by
        have hbw : b < w.heap.size := (Array.getElem?_eq_some_iff.1 HMAP.out.1).1
        have hnS : ∀ g, S' g → g ≠ b := fun g h e => HMAP.out.2 (e ▸ HD.out.2.2.2 g h)
        have hnL : gL ≠ b := fun e => by
          rcases (HL3.out gL rfl).1 with h | h
          · exact HMAP.out.2 (e ▸ h)
          · have := h.1; omega
        have h1 : MapI wc b formsL := HGW.out.heap HMAP.out.1
        have h2 : MapI wr b formsL := HM.out.heap h1 (fun h => by
          rcases h with h | h
          · exact hnS _ h rfl
          · have : gL = b := by simpa [Value.ownBlock] using h
            exact hnL this)
        refine ⟨HGS.out.1.heap h2, fun h => ?_⟩
        rcases h with h | h
        · exact hnS _ (HSS.out.2.2.1 _ (HSS.out.2.2.2.1 _ h)) rfl
        · exact hnL h.symm
      refine wp_region_tablesT (Moved (fun g => Sx g ∨ g = gL)) 5 (fun w => w.heap.size = ws.heap.size ∧ OwnT w B x (.agg #[.int .i64 yk, .int .i64 yn, .int .u64 yu, .string ys, .slice ya4 yn4 yc4, .slice ya5 yn5 yc5]) Sx ∧ OwnN w B (.slice (some ⟨gL, 0, none⟩) l.length c5) VV) (fun i => stepS ws.heap.size B Sx gL l.length c5 q (i - 1)) [[], [0], [], [], [], [3, 4], [1, 2], [5, 6]] [[(18, 2), (19, 3), (20, 4), (21, 5), (22, 6)], [(16, 0), (18, 2), (19, 3), (20, 4), (21, 5)], [(16, 0), (17, 1), (19, 3), (20, 4), (21, 5)], [(16, 0), (17, 1), (18, 2), (20, 4), (22, 6)], [(16, 0), (17, 1), (18, 2), (19, 3), (22, 6)], [(16, 0), (17, 1), (18, 2), (19, 3), (20, 4), (22, 6)], [(16, 0), (17, 1), (18, 2), (19, 3), (20, 4), (21, 5)], [(16, 0), (17, 1), (18, 2), (19, 3), (20, 4), (21, 5), (22, 6)]] [(16, 0), (17, 1), (18, 2), (19, 3), (20, 4), (21, 5), (22, 6)]
        [fun y v w => v = .pointer (some ⟨N, 5, none⟩), fun y v w => v = .slice (some ⟨gL, 0, none⟩) l.length c5, fun y v w => v = .int .i64 q, fun y v w => v = .agg #[.int .i64 yk, .int .i64 yn, .int .u64 yu, .string ys, .slice ya4 yn4 yc4, .slice ya5 yn5 yc5], fun y v w => v = .map (some b), fun y v w => DoneF ofT ws.heap.size B Sx gL l.length c5 q VV x v w, fun y v w => v = .pointer (some ⟨gL, q * 6, none⟩), fun y v w => ws.heap.size < w.heap.size ∧ OwnN w B (.slice (some ⟨gL, 0, none⟩) l.length c5) (VV.set q (y 5))]
        (by kernel_rfl) Moved.trans' (Moved.refl _) (fun i => stepS_moved (i - 1)) (fun _ _ => .inl rfl) (fun i hi w w' ht h => stepS_pre (by omega) ht h) ⟨rfl, HOXS.out.grew (Grew.refl _).drew, HROWS.out.grew (Grew.refl _).drew⟩ (Moved.of_grew (Grew.refl _).drew) (by kernel_rfl)
        ⟨fun _ _ _ _ _ _ _ h => h, fun _ _ _ _ _ _ _ h => h, fun _ _ _ _ _ _ _ h => h, fun _ _ _ _ _ _ _ h => h, fun _ _ _ _ _ _ _ h => h, fun i hi y v w w' ht h => DoneF.step HQ2.out.1 ⟨HSB.out.2.1, Nat.lt_of_lt_of_le HSB.out.2.2.2.2.2.2 HGS.out.1.size⟩ (by omega) ht h, fun _ _ _ _ _ _ _ h => h, fun i hi y v w w' ht h => stepS_row (by omega) ht h, trivial⟩
        ⟨fun _ _ _ _ _ h => h, fun _ _ _ _ _ h => h, fun _ _ _ _ _ h => h, fun _ _ _ _ _ h => h, fun _ _ _ _ _ h => h, fun _ _ _ _ _ h => h, fun _ _ _ _ _ h => h, fun y y' v w e h => by have h4 := e 5 (by decide); show ws.heap.size < w.heap.size ∧ OwnN w B (.slice (some ⟨gL, 0, none⟩) l.length c5) (VV.set q (y' 5)); rw [← h4]; exact h, trivial⟩
        ⟨?_, ?_, ?_, ?_, ?_, ?_, ?_, ?_, trivial⟩ rfl ?_
      · intro y w2 hG hI hD K hK
        clear hI
        simp only [fillL, Act.put, List.setIfInBounds_toArray, List.set_cons_zero, List.set_cons_succ, List.getD_cons_zero, List.getD_cons_succ] at hK ⊢
        refine ite_yes (by rfl) ?_
        go_simp
        exact hK _ _ _ rfl (.inl rfl) rfl
      · intro y w2 hG hI hD K hK
        simp only [depsT, List.getD_cons_zero, List.getD_cons_succ, and_true] at hD
        have h0 := hD
        clear hD
        clear hI
        simp only [fillL, Act.put, List.setIfInBounds_toArray, List.set_cons_zero, List.set_cons_succ, List.getD_cons_zero, List.getD_cons_succ] at hK ⊢
        rw [h0] at hK ⊢
        clear h0
        refine ite_yes (by rfl) ?_
        have dd := hG.cell d5 n1
        go_simp
        exact hK _ _ _ rfl (.inl rfl) rfl
      · intro y w2 hG hI hD K hK
        clear hI
        simp only [fillL, Act.put, List.setIfInBounds_toArray, List.set_cons_zero, List.set_cons_succ, List.getD_cons_zero, List.getD_cons_succ] at hK ⊢
        refine ite_yes (by rfl) ?_
        go_simp
        exact hK _ _ _ rfl (.inl rfl) rfl
      · intro y w2 hG hI hD K hK
        clear hI
        simp only [fillL, Act.put, List.setIfInBounds_toArray, List.set_cons_zero, List.set_cons_succ, List.getD_cons_zero, List.getD_cons_succ] at hK ⊢
        refine ite_yes (by rfl) ?_
        have dd0 := hG.cell b0 n2
        have dd1 := hG.cell b1 n2
        have dd2 := hG.cell b2 n2
        have dd3 := hG.cell b3 n2
        have dd4 := hG.cell b4 n2
        have dd5 := hG.cell b5 n2
        go_simp
        exact hK _ _ _ rfl (.inl rfl) rfl
      · intro y w2 hG hI hD K hK
        clear hI
        simp only [fillL, Act.put, List.setIfInBounds_toArray, List.set_cons_zero, List.set_cons_succ, List.getD_cons_zero, List.getD_cons_succ] at hK ⊢
        refine ite_yes (by rfl) ?_
        go_simp
        exact hK _ _ _ rfl (.inl rfl) rfl
      · intro y w2 hG hI hD K hK
        simp only [depsT, List.getD_cons_zero, List.getD_cons_succ, and_true] at hD
        have h3 := hD.1
        have h4 := hD.2
        clear hD
        simp only [fillL, Act.put, List.setIfInBounds_toArray, List.set_cons_zero, List.set_cons_succ, List.getD_cons_zero, List.getD_cons_succ] at hK ⊢
        rw [h3, h4] at hK ⊢
        clear h3 h4
        refine ite_yes (by rfl) ?_
        have hI' := hI rfl
        have hmp : MapI w2 b formsL := hG.heap HMW.out.1 HMW.out.2
        go_simp
        refine (HIH.out x HXZ.out.1 HXZ.out.2 _ w2 B b Sx hI'.2.1 (Nat.le_trans HBW.out (Nat.le_trans HGWR.out (Nat.le_trans HGS.out.1.size (Nat.le_of_eq hI'.1.symm)))) (fun g hg => Nat.lt_of_lt_of_le (HSB.out.1 g hg) (Nat.le_trans HGS.out.1.size (Nat.le_of_eq hI'.1.symm))) hmp (fun h => HMW.out.2 (.inl h))).mono ?_
        rintro r w3 ⟨yv, Sy, rfl, ho, hm, hgt, hf⟩
        have hrw : OwnN w3 B (.slice (some ⟨gL, 0, none⟩) l.length c5) VV := ⟨Moved.owns hm hI'.2.2.1 (fun g hg e => by simp [Value.ownBlock] at hg; subst hg; exact HSB.out.2.1 e), hI'.2.2.2⟩
        rw [← set_same HQ2.out.2] at hrw
        exact hK _ _ _ rfl (.inr (.inl ⟨rfl, hI'.1, hm, hgt⟩)) ⟨by have := hI'.1; omega, ⟨Sy, ho, fun g hg => (hf g hg).imp id fun h => ⟨by have := hI'.1; have := h.1; omega, h.2⟩⟩, _, hrw⟩
      · intro y w2 hG hI hD K hK
        simp only [depsT, List.getD_cons_zero, List.getD_cons_succ, and_true] at hD
        have h1 := hD.1
        have h2 := hD.2
        clear hD
        clear hI
        simp only [fillL, Act.put, List.setIfInBounds_toArray, List.set_cons_zero, List.set_cons_succ, List.getD_cons_zero, List.getD_cons_succ] at hK ⊢
        rw [h1, h2] at hK ⊢
        clear h1 h2
        refine ite_yes (by rfl) ?_
        go_simp
        exact hK _ _ _ rfl (.inl rfl) rfl
      · intro y w2 hG hI hD K hK
        simp only [depsT, List.getD_cons_zero, List.getD_cons_succ, and_true] at hD
        have h5 := hD.1
        have h6 := hD.2
        clear hD
        clear hI
        simp only [fillL, Act.put, List.setIfInBounds_toArray, List.set_cons_zero, List.set_cons_succ, List.getD_cons_zero, List.getD_cons_succ] at hK ⊢
        rw [h6] at hK ⊢
        clear h6
        refine ite_yes (by rfl) ?_
        have hd4 := h5
        obtain ⟨hW, ⟨Sy, ho, hs⟩, z, hz⟩ := hd4
        obtain ⟨zk, zn, zu, zs, za4, zn4, zc4, za5, zn5, zc5, hy4⟩ := ho.node6
        rw [hy4] at hK ho ⊢
        have hzl : q < (VV.set q z).length := by rw [List.length_set]; exact HQ2.out.1
        have hzq : (VV.set q z)[q]? = some z := List.getElem?_set_self HQ2.out.1
        obtain ⟨z0, z1, z2, z3, z4, z5, e6, cc0, cc1, cc2, cc3, cc4, cc5⟩ := hz.at hzq
        have ff0 := hz.frozen (q * 6)
        have ff1 := hz.frozen (q * 6 + 1)
        have ff2 := hz.frozen (q * 6 + 2)
        have ff3 := hz.frozen (q * 6 + 3)
        have ff4 := hz.frozen (q * 6 + 4)
        have ff5 := hz.frozen (q * 6 + 5)
        have hstep : ∀ vs, q < vs.length → OwnN w2 B (.slice (some ⟨gL, 0, none⟩) l.length c5) vs → OwnN _ B (.slice (some ⟨gL, 0, none⟩) l.length c5) (vs.set q _) := fun vs hv h => OwnN.stored h hv (x := .agg #[.int .i64 zk, .int .i64 zn, .int .u64 zu, .string zs, .slice za4 zn4 zc4, .slice za5 zn5 zc5]) ⟨_, _, _, _, _, _, _, _, _, _, rfl⟩ rfl
        have hst2 := hstep _ hzl hz
        rw [List.set_set] at hst2
        have hmv := moved_six w2 gL (q * 6) (.int .i64 zk) (.int .i64 zn) (.int .u64 zu) (.string zs) (.slice za4 zn4 zc4) (.slice za5 zn5 zc5)
        go_simp
        refine hK _ undef _ rfl (.inr (.inr ⟨rfl, hW, hmv.size, hmv, _, ⟨_, _, _, _, _, _, _, _, _, _, rfl⟩, hstep⟩)) ⟨Nat.lt_of_lt_of_le hW hmv.size, ?_⟩
        exact hst2
      · intro y w2 hG hF
        simp only [factsT, and_true, Nat.reduceAdd] at hF
        have h0 := hF.1
        have h1 := hF.2.1
        have h2 := hF.2.2.1
        have h3 := hF.2.2.2.1
        have h4 := hF.2.2.2.2.1
        have h5 := hF.2.2.2.2.2.1
        have h6 := hF.2.2.2.2.2.2.1
        have h7 := hF.2.2.2.2.2.2.2
        clear hF
        simp only [fillL, Act.put, List.setIfInBounds_toArray, List.set_cons_zero, List.set_cons_succ, List.getD_cons_zero, List.getD_cons_succ]
        rw [h0, h1, h2, h3, h4, h6]
        clear h0 h1 h2 h3 h4 h6
        obtain ⟨hW, ⟨Sy, ho, hs⟩, _⟩ := h5
        have hrow := h7.2
        clear h7
        obtain ⟨zk, zn, zu, zs, za4, zn4, zc4, za5, zn5, zc5, hy4⟩ := ho.node6
        rw [hy4] at ho hrow ⊢
        clear hy4
        have HNX : Hid (LoopF ofT wc w2 B S' (.slice (some ⟨gL, 0, none⟩) l.length c5) l (q + 1)) := by
          have hv := HVV.out
          obtain ⟨hq1, hVl, hVq⟩ := HQV.out
          obtain ⟨hdis, hs1, hs2, hSx, hSr, hxr⟩ := HSS.out
          have hgs := HGS.out.1
          have hmw := HM.out
          have hgL := HL3.out gL rfl
          have hm2 : Moved (fun g => Sx g ∨ g = gL) wr w2 := (Moved.of_grew hgs).trans' hG
          have hW' : w.heap.size ≤ wr.heap.size := HGWR.out
          have hwc : wc.heap.size ≤ wr.heap.size := hmw.size
          have hS' : ∀ g, S' g → g < wr.heap.size := fun g h => by have := HSW.out _ (HD.out.2.2.2 _ h); omega
          have hS1 : ∀ g, S1 g → g < wr.heap.size := fun g h => (hs1 g h).elim (hS' g) (fun h => h.2)
          have hL1 : ¬ S1 gL := fun h => (hs1 _ h).elim hgL.2.1 (fun h => by have := (World.ownsRow.lt HLV.out.1 gL rfl).2; have := h.1; omega)
          have hL2 : ¬ Sr gL := fun h => hgL.2.1 (hs2 _ (hSr _ h))
          refine ⟨vs1 ++ [.agg #[.int .i64 zk, .int .i64 zn, .int .u64 zu, .string zs, .slice za4 zn4 zc4, .slice za5 zn5 zc5]], vr, fun g => S1 g ∨ Sy g, Sr, by rw [List.length_append]; simp [hq1], ?_, ?_, ?_, ?_, ?_, fun g h => hs2 g (hSr g h), ?_⟩
          · rw [← hv, List.set_append_right _ _ (by omega), hq1, Nat.sub_self, List.set_cons_zero] at hrow
            simpa using hrow
          · rw [HTK.out]
            refine KidsO.app (HK12.out.1.kept hm2 (fun g h e => ?_)) (KidsO.one ho) (fun g h1 h2 => ?_)
            · rcases e with e | e
              · exact hdis g h (hSx g e)
              · subst e; exact hL1 h
            · rcases hs g h2 with e | e
              · exact hdis g h1 (hSx g e)
              · have := hS1 g h1; have := hgs.size; have := e.1; omega
          · refine HK12.out.2.kept hm2 (fun g h e => ?_)
            rcases e with e | e
            · exact hxr g e h
            · subst e; exact hL2 h
          · rintro g (h | h) h2
            · exact hdis g h (hSr g h2)
            · rcases hs g h with e | e
              · exact hxr g e h2
              · have := hS' g (hs2 g (hSr g h2)); have := hgs.size; have := e.1; omega
          · rintro g (h | h)
            · exact (hs1 g h).imp id (fun h => ⟨h.1, Nat.lt_of_lt_of_le h.2 hm2.size⟩)
            · rcases hs g h with e | e
              · exact .inl (hs2 g (hSx g e))
              · exact .inr ⟨by have := hgs.size; have := e.1; omega, e.2⟩
          · refine hmw.trans' (hm2.mono (fun g _ h => ?_))
            rcases h with e | e
            · exact .inl (hs2 g (hSx g e))
            · exact .inr (by rw [e]; rfl)
        clear hs ho hrow hG b0 b1 b2 b3 b4 b5 d5 n1 n2
        go_wp2_with fail
        go_roundw
        case rel => exact ⟨q + 1, by omega, by go_num, HNX⟩
        case measure => simp [intOf]; omega
    · obtain rfl : q = l.length := by omega
      have hlN : N + 1 < wc.heap.size := (Array.getElem?_eq_some_iff.1 HBR.out).1
      have hend := of_end HN.out HGW.out HKV.out (fun g hg => (World.ownsRow.lt HLV.out.1 g hg).2) HK3.out HL3.out HD.out.2.2.2 HSW.out hlN HW.out
      obtain ⟨S1, vs1, hmv, hrow, hkd, hk1, hl1, hs1, hszz⟩ := hend
      have HEND := Lib.hid (And.intro hmv (And.intro hrow (And.intro hkd (And.intro hk1 (And.intro hl1 (And.intro hs1 hszz))))))
      have HNR : Hid (N + 1 < wr.heap.size) := by show _ < _; omega
      have hz : (zeroValue 27).run Try.prog wr = .ok .nilFunc wr := by
        have h : (Try.prog.info? 27).map (fun i => i.zero) = some (some .nilFunc) := by kernel_rfl
        cases hi : Try.prog.info? 27 with
        | none => rw [hi] at h; cases h
        | some i => rw [hi] at h; simp at h; simp [zeroValue, typeInfo, hi, h, Result.andThen]
      have hmapr : MapI wr b formsL := hmv.heap HMAP.out.1 HMAP.out.2
      have hlk := lookI wr Try.underlying48 Try.underlying3 hz b formsL hmapr k
      have hrow' := HWF.out.1
      have hres := HWF.out.2.1
      have d0 := row_cellT hrow' 0 _ rfl
      have d1 := row_cellT hrow' 1 _ rfl
      have d2 := row_cellT hrow' 2 _ rfl
      have d3 := row_cellT hrow' 3 _ rfl
      have d4 := row_cellT hrow' 4 _ rfl
      have d5 := row_cellT hrow' 5 _ rfl
      clear hz hmapr hmv hrow hkd hk1 hl1 hs1 hszz hrow' HW hlN
      by_cases hno : k = 4 ∨ k = 9 ∨ k = 8 ∨ k = 5 ∨ (11 ≤ k ∧ k ≤ 16)
      rotate_left
      · have hnn := find_none (k := k) (fun h => hno (.inl h)) (fun h => hno (.inr (.inl h))) (fun h => hno (.inr (.inr (.inl h)))) (fun h => hno (.inr (.inr (.inr (.inl h))))) (fun h => hno (.inr (.inr (.inr (.inr h)))))
        rw [hnn] at hlk
        have hne := ne_nil
        have r0 := row_frozen hres 0
        have r1 := row_frozen hres 1
        have r2 := row_frozen hres 2
        have r3 := row_frozen hres 3
        have r4 := row_frozen hres 4
        have r5 := row_frozen hres 5
        have z0 := row_cellT hres 0 _ rfl
        have z1 := row_cellT hres 1 _ rfl
        have z2 := row_cellT hres 2 _ rfl
        have z3 := row_cellT hres 3 _ rfl
        have z4 := row_cellT hres 4 _ rfl
        have z5 := row_cellT hres 5 _ rfl
        have HFIN : Hid (∃ S3, OwnT (store6 wr (N + 1) (.int .i64 k) (.int .i64 n) (.int .u64 u) (.string s) (.slice a4 keys.length c4) (.slice a5 l.length c5)) B (ofT (.mk k n u s keys l)) (.agg #[.int .i64 k, .int .i64 n, .int .u64 u, .string s, .slice a4 keys.length c4, .slice a5 l.length c5]) S3 ∧ Moved S w (store6 wr (N + 1) (.int .i64 k) (.int .i64 n) (.int .u64 u) (.string s) (.slice a4 keys.length c4) (.slice a5 l.length c5)) ∧ w.heap.size < (store6 wr (N + 1) (.int .i64 k) (.int .i64 n) (.int .u64 u) (.string s) (.slice a4 keys.length c4) (.slice a5 l.length c5)).heap.size ∧ ∀ g, S3 g → S g ∨ Fresh w (store6 wr (N + 1) (.int .i64 k) (.int .i64 n) (.int .u64 u) (.string s) (.slice a4 keys.length c4) (.slice a5 l.length c5)) g) := by
          have hT : ofT (.mk k n u s keys l) = .mk k n u s keys (ofL l) := by
            simp only [ofT, formN]
            rw [if_neg (fun h => hno (h.elim .inl (fun h => .inr (.inl h)))), if_neg (fun h => hno (.inr (.inr (.inl h)))), if_neg (fun h => hno (.inr (.inr (.inr (.inl h))))), if_neg (fun h => hno (.inr (.inr (.inr (.inr h)))))]
          rw [hT]
          obtain ⟨hmv, hrow, hkd, hk1, hl1, hs1, hsz1⟩ := HEND.out
          have hwr : Grew w wc := HGW.out
          have hfr : ∀ g, (S g ∨ Fresh w wc g) → (S g ∨ Fresh w wr g) := fun g h => h.imp id (fun e => ⟨e.1, Nat.lt_of_lt_of_le e.2 hsz1⟩)
          refine of_fin (S2 := fun g => (Value.slice a4 keys.length c4).ownBlock = some g ∨ (Value.slice a5 l.length c5).ownBlock = some g ∨ S1 g) HN.out hmv HNR.out ⟨HB.out, _, _, vs1, S1, rfl, HWF.out.2.2, hrow, fun g hg => ⟨.inl hg, hk1 g hg⟩, fun g hg => ⟨.inr (.inl hg), hl1 g hg⟩, fun g hg => (HK3.out g hg).2.2, fun g h => .inr (.inr h), hkd⟩ (fun g hg => ?_) (Grew.refl wr)
          rcases hg with hg | hg | hg
          · refine ⟨hfr g (HK3.out g hg).1, fun e => ?_⟩
            exact not_block HWF.out.2.2 HWF.out.2.1 (by decide) (e ▸ hg)
          · exact ⟨hfr g (HL3.out g hg).1, (HL3.out g hg).2.2.2⟩
          · exact hs1 g hg
        clear hno hnn hres
        go_wp2_with fail
        refine bodyPost_ret (v := .agg #[.int .i64 k, .int .i64 n, .int .u64 u, .string s, .slice a4 keys.length c4, .slice a5 l.length c5]) (by simp [results, Try.results28, go_sem, z0, z1, z2, z3, z4, z5]) rfl ?_
        obtain ⟨S3, hh⟩ := HFIN.out
        exact ⟨_, rfl, S3, hh⟩
      · by_cases hk : k = 4 ∨ k = 9
        · obtain ⟨j, hfi⟩ : ∃ j, findI k formsL 0 = some (j, fF 44) := by
            rcases hk with e | e <;> (rw [e]; exact ⟨_, rfl⟩)
          by_cases hu : u < 9223372036854775808
          · have numU_s : numU u = .agg #[.int .i64 3, .int .i64 u, .int .u64 0, .string ⟨#[]⟩, .slice none 0 0, .slice none 0 0] := if_pos hu
            have hh := form1_any k n u s a4 keys.length c4 a5 l.length c5 wr HB.out.2.2.1.1
            rw [numU_s] at hh
            have HH := Lib.hid hh
            clear hh numU_s
            have hlk2 : (Instr.lookup 48 (.map (some b)) (.int .i64 k) false).run Try.prog wr = .ok (.func (.func 44) #[] #[]) wr := by rw [hlk, hfi]; rfl
            clear hlk hfi
            have hne := ne_fn 44
            go_wp2_with fail
            refine (HH.out).mono ?_
            rintro r w5 ⟨rfl, hg5⟩
            have hres5 := hg5.heap hres
            have r0 := row_frozen hres5 0
            have r1 := row_frozen hres5 1
            have r2 := row_frozen hres5 2
            have r3 := row_frozen hres5 3
            have r4 := row_frozen hres5 4
            have r5 := row_frozen hres5 5
            have z0 := row_cellT hres5 0 _ rfl
            have z1 := row_cellT hres5 1 _ rfl
            have z2 := row_cellT hres5 2 _ rfl
            have z3 := row_cellT hres5 3 _ rfl
            have z4 := row_cellT hres5 4 _ rfl
            have z5 := row_cellT hres5 5 _ rfl
            have HFIN : Hid (∃ S3, OwnT (store6 w5 (N + 1) (.int .i64 3) (.int .i64 u) (.int .u64 0) (.string ⟨#[]⟩) (.slice none 0 0) (.slice none 0 0)) B (ofT (.mk k n u s keys l)) (.agg #[.int .i64 3, .int .i64 u, .int .u64 0, .string ⟨#[]⟩, .slice none 0 0, .slice none 0 0]) S3 ∧ Moved S w (store6 w5 (N + 1) (.int .i64 3) (.int .i64 u) (.int .u64 0) (.string ⟨#[]⟩) (.slice none 0 0) (.slice none 0 0)) ∧ w.heap.size < (store6 w5 (N + 1) (.int .i64 3) (.int .i64 u) (.int .u64 0) (.string ⟨#[]⟩) (.slice none 0 0) (.slice none 0 0)).heap.size ∧ ∀ g, S3 g → S g ∨ Fresh w (store6 w5 (N + 1) (.int .i64 3) (.int .i64 u) (.int .u64 0) (.string ⟨#[]⟩) (.slice none 0 0) (.slice none 0 0)) g) := by
              have hT : ofT (.mk k n u s keys l) = (.mk 3 u 0 ⟨#[]⟩ [] []) := by
                simp only [ofT, formN]
                rw [if_pos hk, if_pos (by omega)]
              rw [hT]
              obtain ⟨hmv, hrow, hkd, hk1, hl1, hs1, hsz1⟩ := HEND.out
              exact of_fin (S2 := fun _ => False) HN.out hmv HNR.out (own_leaf ⟨(by unfold i64ok; omega), (by have := HB.out.2.2.1.1; unfold i64ok; omega), (by unfold u64ok; omega), (by unfold lenok; decide)⟩) (fun g h => h.elim) hg5
            clear hg5 hres hres5 hno
            go_wp2_with fail
            refine bodyPost_ret (v := .agg #[.int .i64 3, .int .i64 u, .int .u64 0, .string ⟨#[]⟩, .slice none 0 0, .slice none 0 0]) (by simp [results, Try.results28, go_sem, z0, z1, z2, z3, z4, z5]) rfl ?_
            obtain ⟨S3, hh⟩ := HFIN.out
            first
              | exact ⟨_, rfl, S3, hh⟩
              | exact ⟨_, S3, rfl, hh⟩
          · have numU_s : numU u = .agg #[.int .i64 4, .int .i64 0, .int .u64 u, .string ⟨#[]⟩, .slice none 0 0, .slice none 0 0] := if_neg hu
            have hh := form1_any k n u s a4 keys.length c4 a5 l.length c5 wr HB.out.2.2.1.1
            rw [numU_s] at hh
            have HH := Lib.hid hh
            clear hh numU_s
            have hlk2 : (Instr.lookup 48 (.map (some b)) (.int .i64 k) false).run Try.prog wr = .ok (.func (.func 44) #[] #[]) wr := by rw [hlk, hfi]; rfl
            clear hlk hfi
            have hne := ne_fn 44
            go_wp2_with fail
            refine (HH.out).mono ?_
            rintro r w5 ⟨rfl, hg5⟩
            have hres5 := hg5.heap hres
            have r0 := row_frozen hres5 0
            have r1 := row_frozen hres5 1
            have r2 := row_frozen hres5 2
            have r3 := row_frozen hres5 3
            have r4 := row_frozen hres5 4
            have r5 := row_frozen hres5 5
            have z0 := row_cellT hres5 0 _ rfl
            have z1 := row_cellT hres5 1 _ rfl
            have z2 := row_cellT hres5 2 _ rfl
            have z3 := row_cellT hres5 3 _ rfl
            have z4 := row_cellT hres5 4 _ rfl
            have z5 := row_cellT hres5 5 _ rfl
            have HFIN : Hid (∃ S3, OwnT (store6 w5 (N + 1) (.int .i64 4) (.int .i64 0) (.int .u64 u) (.string ⟨#[]⟩) (.slice none 0 0) (.slice none 0 0)) B (ofT (.mk k n u s keys l)) (.agg #[.int .i64 4, .int .i64 0, .int .u64 u, .string ⟨#[]⟩, .slice none 0 0, .slice none 0 0]) S3 ∧ Moved S w (store6 w5 (N + 1) (.int .i64 4) (.int .i64 0) (.int .u64 u) (.string ⟨#[]⟩) (.slice none 0 0) (.slice none 0 0)) ∧ w.heap.size < (store6 w5 (N + 1) (.int .i64 4) (.int .i64 0) (.int .u64 u) (.string ⟨#[]⟩) (.slice none 0 0) (.slice none 0 0)).heap.size ∧ ∀ g, S3 g → S g ∨ Fresh w (store6 w5 (N + 1) (.int .i64 4) (.int .i64 0) (.int .u64 u) (.string ⟨#[]⟩) (.slice none 0 0) (.slice none 0 0)) g) := by
              have hT : ofT (.mk k n u s keys l) = (.mk 4 0 u ⟨#[]⟩ [] []) := by
                simp only [ofT, formN]
                rw [if_pos hk, if_neg (by omega)]
              rw [hT]
              obtain ⟨hmv, hrow, hkd, hk1, hl1, hs1, hsz1⟩ := HEND.out
              exact of_fin (S2 := fun _ => False) HN.out hmv HNR.out (own_leaf ⟨(by unfold i64ok; omega), (by unfold i64ok; omega), HB.out.2.2.1, (by unfold lenok; decide)⟩) (fun g h => h.elim) hg5
            clear hg5 hres hres5 hno
            go_wp2_with fail
            refine bodyPost_ret (v := .agg #[.int .i64 4, .int .i64 0, .int .u64 u, .string ⟨#[]⟩, .slice none 0 0, .slice none 0 0]) (by simp [results, Try.results28, go_sem, z0, z1, z2, z3, z4, z5]) rfl ?_
            obtain ⟨S3, hh⟩ := HFIN.out
            first
              | exact ⟨_, rfl, S3, hh⟩
              | exact ⟨_, S3, rfl, hh⟩
        by_cases hk : k = 8
        · obtain ⟨j, hfi⟩ : ∃ j, findI k formsL 0 = some (j, fF 47) := by rw [hk]; exact ⟨_, rfl⟩
          have HKK := Lib.hid hk
          clear hk
          have hlk2 : (Instr.lookup 48 (.map (some b)) (.int .i64 k) false).run Try.prog wr = .ok (.func (.func 47) #[] #[]) wr := by rw [hlk, hfi]; rfl
          clear hlk hfi
          have hne := ne_fn 47
          go_wp2_with fail
          refine ((form3_any k n u s a4 keys.length c4 a5 l.length c5 wr)).mono ?_
          rintro r w5 ⟨rfl, hg5⟩
          have hres5 := hg5.heap hres
          have r0 := row_frozen hres5 0
          have r1 := row_frozen hres5 1
          have r2 := row_frozen hres5 2
          have r3 := row_frozen hres5 3
          have r4 := row_frozen hres5 4
          have r5 := row_frozen hres5 5
          have z0 := row_cellT hres5 0 _ rfl
          have z1 := row_cellT hres5 1 _ rfl
          have z2 := row_cellT hres5 2 _ rfl
          have z3 := row_cellT hres5 3 _ rfl
          have z4 := row_cellT hres5 4 _ rfl
          have z5 := row_cellT hres5 5 _ rfl
          have HFIN : Hid (∃ S3, OwnT (store6 w5 (N + 1) (.int .i64 3) (.int .i64 n) (.int .u64 0) (.string ⟨#[]⟩) (.slice none 0 0) (.slice none 0 0)) B (ofT (.mk k n u s keys l)) (.agg #[.int .i64 3, .int .i64 n, .int .u64 0, .string ⟨#[]⟩, .slice none 0 0, .slice none 0 0]) S3 ∧ Moved S w (store6 w5 (N + 1) (.int .i64 3) (.int .i64 n) (.int .u64 0) (.string ⟨#[]⟩) (.slice none 0 0) (.slice none 0 0)) ∧ w.heap.size < (store6 w5 (N + 1) (.int .i64 3) (.int .i64 n) (.int .u64 0) (.string ⟨#[]⟩) (.slice none 0 0) (.slice none 0 0)).heap.size ∧ ∀ g, S3 g → S g ∨ Fresh w (store6 w5 (N + 1) (.int .i64 3) (.int .i64 n) (.int .u64 0) (.string ⟨#[]⟩) (.slice none 0 0) (.slice none 0 0)) g) := by
            have hT : ofT (.mk k n u s keys l) = (.mk 3 n 0 ⟨#[]⟩ [] []) := by
              simp only [ofT, formN]
              rw [if_neg (by have := HKK.out; omega), if_pos HKK.out]
            rw [hT]
            obtain ⟨hmv, hrow, hkd, hk1, hl1, hs1, hsz1⟩ := HEND.out
            exact of_fin (S2 := fun _ => False) HN.out hmv HNR.out (own_leaf ⟨(by unfold i64ok; omega), HB.out.2.1, (by unfold u64ok; omega), (by unfold lenok; decide)⟩) (fun g h => h.elim) hg5
          clear hg5 hres hres5 hno
          go_wp2_with fail
          refine bodyPost_ret (v := .agg #[.int .i64 3, .int .i64 n, .int .u64 0, .string ⟨#[]⟩, .slice none 0 0, .slice none 0 0]) (by simp [results, Try.results28, go_sem, z0, z1, z2, z3, z4, z5]) rfl ?_
          obtain ⟨S3, hh⟩ := HFIN.out
          first
            | exact ⟨_, rfl, S3, hh⟩
            | exact ⟨_, S3, rfl, hh⟩
        by_cases hk : k = 5
        · obtain ⟨j, hfi⟩ : ∃ j, findI k formsL 0 = some (j, fF 48) := by rw [hk]; exact ⟨_, rfl⟩
          have HKK := Lib.hid hk
          clear hk
          have hlk2 : (Instr.lookup 48 (.map (some b)) (.int .i64 k) false).run Try.prog wr = .ok (.func (.func 48) #[] #[]) wr := by rw [hlk, hfi]; rfl
          clear hlk hfi
          have hne := ne_fn 48
          go_wp2_with fail
          refine ((form4_any k n u s a4 keys.length c4 a5 l.length c5 wr)).mono ?_
          rintro r w5 ⟨rfl, hg5⟩
          have hres5 := hg5.heap hres
          have r0 := row_frozen hres5 0
          have r1 := row_frozen hres5 1
          have r2 := row_frozen hres5 2
          have r3 := row_frozen hres5 3
          have r4 := row_frozen hres5 4
          have r5 := row_frozen hres5 5
          have z0 := row_cellT hres5 0 _ rfl
          have z1 := row_cellT hres5 1 _ rfl
          have z2 := row_cellT hres5 2 _ rfl
          have z3 := row_cellT hres5 3 _ rfl
          have z4 := row_cellT hres5 4 _ rfl
          have z5 := row_cellT hres5 5 _ rfl
          have HFIN : Hid (∃ S3, OwnT (store6 w5 (N + 1) (.int .i64 6) (.int .i64 0) (.int .u64 0) (.string s) (.slice none 0 0) (.slice none 0 0)) B (ofT (.mk k n u s keys l)) (.agg #[.int .i64 6, .int .i64 0, .int .u64 0, .string s, .slice none 0 0, .slice none 0 0]) S3 ∧ Moved S w (store6 w5 (N + 1) (.int .i64 6) (.int .i64 0) (.int .u64 0) (.string s) (.slice none 0 0) (.slice none 0 0)) ∧ w.heap.size < (store6 w5 (N + 1) (.int .i64 6) (.int .i64 0) (.int .u64 0) (.string s) (.slice none 0 0) (.slice none 0 0)).heap.size ∧ ∀ g, S3 g → S g ∨ Fresh w (store6 w5 (N + 1) (.int .i64 6) (.int .i64 0) (.int .u64 0) (.string s) (.slice none 0 0) (.slice none 0 0)) g) := by
            have hT : ofT (.mk k n u s keys l) = (.mk 6 0 0 s [] []) := by
              simp only [ofT, formN]
              rw [if_neg (by have := HKK.out; omega), if_neg (by have := HKK.out; omega), if_pos HKK.out]
            rw [hT]
            obtain ⟨hmv, hrow, hkd, hk1, hl1, hs1, hsz1⟩ := HEND.out
            exact of_fin (S2 := fun _ => False) HN.out hmv HNR.out (own_leaf ⟨(by unfold i64ok; omega), (by unfold i64ok; omega), (by unfold u64ok; omega), HB.out.2.2.2.1⟩) (fun g h => h.elim) hg5
          clear hg5 hres hres5 hno
          go_wp2_with fail
          refine bodyPost_ret (v := .agg #[.int .i64 6, .int .i64 0, .int .u64 0, .string s, .slice none 0 0, .slice none 0 0]) (by simp [results, Try.results28, go_sem, z0, z1, z2, z3, z4, z5]) rfl ?_
          obtain ⟨S3, hh⟩ := HFIN.out
          first
            | exact ⟨_, rfl, S3, hh⟩
            | exact ⟨_, S3, rfl, hh⟩
        · have hk : 11 ≤ k ∧ k ≤ 16 := by omega
          obtain ⟨j, hfi⟩ : ∃ j, findI k formsL 0 = some (j, fF 46) := by
            have h6 : k = 11 ∨ k = 12 ∨ k = 13 ∨ k = 14 ∨ k = 15 ∨ k = 16 := by omega
            rcases h6 with e | e | e | e | e | e <;> (rw [e]; exact ⟨_, rfl⟩)
          have hlk2 : (Instr.lookup 48 (.map (some b)) (.int .i64 k) false).run Try.prog wr = .ok (.func (.func 46) #[] #[]) wr := by rw [hlk, hfi]; rfl
          clear hlk hfi
          have hne := ne_fn 46
          go_wp2_with fail
          refine ((form2_any k n u s a4 keys.length c4 a5 l.length c5 wr)).mono ?_
          rintro r w5 ⟨rfl, hg5⟩
          have hres5 := hg5.heap hres
          have r0 := row_frozen hres5 0
          have r1 := row_frozen hres5 1
          have r2 := row_frozen hres5 2
          have r3 := row_frozen hres5 3
          have r4 := row_frozen hres5 4
          have r5 := row_frozen hres5 5
          have z0 := row_cellT hres5 0 _ rfl
          have z1 := row_cellT hres5 1 _ rfl
          have z2 := row_cellT hres5 2 _ rfl
          have z3 := row_cellT hres5 3 _ rfl
          have z4 := row_cellT hres5 4 _ rfl
          have z5 := row_cellT hres5 5 _ rfl
          have HFIN : Hid (∃ S3, OwnT (store6 w5 (N + 1) (.int .i64 10) (.int .i64 0) (.int .u64 0) (.string ⟨#[]⟩) (.slice none 0 0) (.slice a5 l.length c5)) B (ofT (.mk k n u s keys l)) (.agg #[.int .i64 10, .int .i64 0, .int .u64 0, .string ⟨#[]⟩, .slice none 0 0, .slice a5 l.length c5]) S3 ∧ Moved S w (store6 w5 (N + 1) (.int .i64 10) (.int .i64 0) (.int .u64 0) (.string ⟨#[]⟩) (.slice none 0 0) (.slice a5 l.length c5)) ∧ w.heap.size < (store6 w5 (N + 1) (.int .i64 10) (.int .i64 0) (.int .u64 0) (.string ⟨#[]⟩) (.slice none 0 0) (.slice a5 l.length c5)).heap.size ∧ ∀ g, S3 g → S g ∨ Fresh w (store6 w5 (N + 1) (.int .i64 10) (.int .i64 0) (.int .u64 0) (.string ⟨#[]⟩) (.slice none 0 0) (.slice a5 l.length c5)) g) := by
            have hT : ofT (.mk k n u s keys l) = (.mk 10 0 0 ⟨#[]⟩ [] (ofL l)) := by
              simp only [ofT, formN]
              rw [if_neg (by omega), if_neg (by omega), if_neg (by omega), if_pos hk]
            rw [hT]
            obtain ⟨hmv, hrow, hkd, hk1, hl1, hs1, hsz1⟩ := HEND.out
            exact of_fin (S2 := fun g => (Value.slice a5 l.length c5).ownBlock = some g ∨ S1 g) HN.out hmv HNR.out (⟨⟨(by unfold i64ok; omega), (by unfold i64ok; omega), (by unfold u64ok; omega), (by unfold lenok; decide), by simp⟩, .slice none 0 0, .slice a5 l.length c5, vs1, S1, rfl, OwnS.nil _ _, hrow, (fun g h => by cases h), (fun g hg => ⟨.inl hg, hl1 g hg⟩), (fun g h => by cases h), (fun g h => .inr h), hkd⟩) (fun g hg => hg.elim (fun hg => ⟨(HL3.out g hg).1.imp id (fun e => ⟨e.1, Nat.lt_of_lt_of_le e.2 hsz1⟩), (HL3.out g hg).2.2.2⟩) (fun hg => hs1 g hg)) hg5
          clear hg5 hres hres5 hno
          go_wp2_with fail
          refine bodyPost_ret (v := .agg #[.int .i64 10, .int .i64 0, .int .u64 0, .string ⟨#[]⟩, .slice none 0 0, .slice a5 l.length c5]) (by simp [results, Try.results28, go_sem, z0, z1, z2, z3, z4, z5]) rfl ?_
          obtain ⟨S3, hh⟩ := HFIN.out
          first
            | exact ⟨_, rfl, S3, hh⟩
            | exact ⟨_, S3, rfl, hh⟩
end Go.Proofs.Ytfbeepkogcmlmaa

/-
  Normal forms, plain: sorting, normal forms, retagging. No program.
-/
namespace Go.Proofs.Ytfbeepkogcmlmaa
open Go Go.ChangeShapes Go.WideShapes Go.ChangeAt Go.RowKit Go.Joins Go.Deep
set_option linter.unusedVariables false
set_option linter.unusedSimpArgs false

/-! ### normal forms -/
/-- The normal form of a tree, sorting and all. -/
def norT (t : Tr) : Tr := ofT (sortT t)
def Tr.n : Tr → Int | .mk _ n _ _ _ _ => n
def Tr.u : Tr → Int | .mk _ _ u _ _ _ => u
end Go.Proofs.Ytfbeepkogcmlmaa

/-
  Normal forms, the reference, plain: its rule for a node, its check; trees beside a counter that turns. Conditions: none.
-/
namespace Go.Proofs.Ytfbeepkogcmlmaa
open Go Go.ChangeShapes Go.WideShapes Go.ChangeAt Go.RowKit Go.Joins Go.Deep
set_option linter.unusedVariables false
set_option linter.unusedSimpArgs false

def leafB (k : Int) : Bool := decide (1 ≤ k ∧ k ≤ 9)
/-- The reference's rule for a node. -/
def suchR : Tr → Bool | .mk k n u s keys l => suchB (.mk k n u s keys l) && (!leafB k || decide (l = []))
mutual
/-- The reference's check of a tree that is not too large. -/
def chkR (b : Nat) : Tr → Int
  | .mk k n u s keys l => if 64 ≤ b then 61 else if suchR (.mk k n u s keys l) = false then 60 else if keyedE (.mk k n u s keys l) ≠ 0 then keyedE (.mk k n u s keys l) else chkRL (b + 1) l
def chkRL (b : Nat) : List Tr → Int
  | [] => 0
  | t :: r => if chkR b t ≠ 0 then chkR b t else chkRL b r
end
theorem chkRL_zero {b : Nat} : ∀ {l : List Tr}, chkRL b l = 0 ↔ ∀ x ∈ l, chkR b x = 0
  | [] => by simp [chkRL]
  | t :: r => by
    rw [chkRL]
    by_cases h : chkR b t = 0
    · rw [if_neg (fun h' => h' h), chkRL_zero (l := r)]
      simp [h]
    · rw [if_pos h]
      simp [h]
theorem such_leaf {k n u : Int} {s : ByteArray} {keys : List ByteArray} {l : List Tr} (h : suchB (.mk k n u s keys l) = true) (hl : leafB k = true) (hk : ∀ x ∈ l, 1 ≤ x.kind) : l = [] := by
  unfold leafB at hl
  simp only [decide_eq_true_eq] at hl
  have hp : partF k = -1 := by unfold partF; repeat' split <;> (try omega)
  cases l with
  | nil => rfl
  | cons x r =>
    have hx := hk x (by simp)
    simp only [suchB, Bool.and_eq_true] at h
    have h2 := h.2
    rw [hp] at h2
    have : otherB (-1) x = true := by
      unfold otherB
      simp
      omega
    simp [this] at h2
theorem such_kind1 {t : Tr} (h : suchB t = true) : 1 ≤ t.kind ∧ t.kind ≤ 17 := by
  cases t
  simp only [suchB, Bool.and_eq_true, decide_eq_true_eq] at h
  exact h.1.1.1.1.1.1.1.1
theorem chkR_zero : ∀ (m : Nat) (t : Tr) (b : Nat), t.size ≤ m → (chkR b t = 0 ↔ valT b t) := by
  intro m
  induction m with
  | zero => intro t b h; have := t.size_pos; omega
  | succ m ih =>
    intro t b h
    obtain ⟨k, n, u, s, keys, l⟩ := t
    have hl : ∀ x ∈ l, (chkR (b + 1) x = 0 ↔ valT (b + 1) x) := fun x hx => ih x (b + 1) (by have := size_mem hx; simp only [Tr.size] at h; omega)
    rw [chkR, valT, valL_iff]
    by_cases hb : 64 ≤ b
    · rw [if_pos hb]
      constructor
      · intro h; exact absurd h (by decide)
      · rintro ⟨h, _⟩; omega
    rw [if_neg hb]
    constructor
    · intro h
      split at h
      · exact absurd h (by decide)
      · rename_i hs
        split at h
        · rename_i hk; exact absurd h hk
        · rename_i hk
          have hs' : suchR (.mk k n u s keys l) = true := by simpa using hs
          unfold suchR at hs'
          simp only [Bool.and_eq_true] at hs'
          have h3 := chkRL_zero.1 h
          exact ⟨by omega, hs'.1, by simpa using hk, fun x hx => (hl x hx).1 (h3 x hx)⟩
    · rintro ⟨_, h1, h2, h3⟩
      have hs : suchR (.mk k n u s keys l) = true := by
        show (suchB (.mk k n u s keys l) && (!leafB k || decide (l = []))) = true
        rw [h1, Bool.true_and]
        cases hlf : leafB k
        · rfl
        · rw [such_leaf h1 hlf fun x hx => (such_kind1 (val_such (h3 x hx))).1]; rfl
      rw [if_neg (by rw [hs]; decide), if_neg (by simpa using h2), chkRL_zero]
      exact fun x hx => (hl x hx).2 (h3 x hx)
where
  val_such {b : Nat} {x : Tr} (h : valT b x) : suchB x = true := by cases x; exact h.2.1
theorem chkR_check {t : Tr} (hz : t.size ≤ 4096) : chkR 0 t = 0 ↔ checkE t = 0 := by
  rw [chkR_zero t.size t 0 (Nat.le_refl _), check_val]
  exact ⟨fun h => ⟨hz, h⟩, fun h => h.2⟩
/-! ### trees beside a counter -/
/-- A counter. -/
abbrev Cnt (n : Int) (T : TypeId) : Obj := .cells #[.int .i64 n] T (0, 0)
theorem cnt_cell {w : World} {p : Nat} {n : Int} {T : TypeId} (h : w.heap[p]? = some (Cnt n T)) {o : Nat} {v : Value} (hc : w.cell? ⟨p, o, none⟩ = some v) : o = 0 ∧ v = .int .i64 n := by
  rw [cell_of_row _ _ _ _ _ _ h] at hc
  cases o with
  | zero => simp at hc; exact ⟨rfl, hc.symm⟩
  | succ o => simp at hc
section
variable {w w' : World} {p : Nat} {n : Int} {T : TypeId}
theorem beside_cell (hm : Moved (fun g => g = p) w w') {a : Addr} {v : Value} (ha : a.block ≠ p) (hc : w.cell? a = some v) : w'.cell? a = some v := by
  have : ∃ o, w.heap[a.block]? = some o := by
    unfold World.cell? at hc
    cases ho : w.heap[a.block]? with
    | none => simp [ho] at hc
    | some o => exact ⟨o, rfl⟩
  obtain ⟨o, ho⟩ := this
  rw [World.cell?_of_block (w := w) ((hm.heap ho ha).trans ho.symm)]
  exact hc
theorem StrsAt.beside (hp : w.heap[p]? = some (Cnt n T)) (hm : Moved (fun g => g = p) w w') {v : Value} {ks : List ByteArray} (h : StrsAt w v ks) : StrsAt w' v ks := by
  obtain ⟨a, c, h1, h2, h3, h4, h5⟩ := h
  refine ⟨a, c, h1, h2, h3, h4, fun i s hs => ?_⟩
  obtain ⟨hz, b, off, e, hc⟩ := h5 i s hs
  refine ⟨hz, b, off, e, beside_cell hm (fun e => ?_) hc⟩
  have e : b = p := e
  subst e
  have := (cnt_cell hp hc).2
  cases this
theorem Cells6.beside (hp : w.heap[p]? = some (Cnt n T)) (hm : Moved (fun g => g = p) w w') {b off : Nat} {v : Value} (h : Cells6 w b off v) : Cells6 w' b off v := by
  obtain ⟨c0, c1, c2, c3, c4, c5, e, h0, h1, h2, h3, h4, h5⟩ := h
  have hb : b ≠ p := by
    intro e
    subst e
    have := (cnt_cell hp h1).1
    omega
  exact ⟨c0, c1, c2, c3, c4, c5, e, beside_cell hm hb h0, beside_cell hm hb h1, beside_cell hm hb h2, beside_cell hm hb h3, beside_cell hm hb h4, beside_cell hm hb h5⟩
theorem RowsAt.beside (hp : w.heap[p]? = some (Cnt n T)) (hm : Moved (fun g => g = p) w w') {v : Value} {vs : List Value} (h : RowsAt w v vs) : RowsAt w' v vs := by
  obtain ⟨a, c, h1, h2, h3, h4, h5⟩ := h
  refine ⟨a, c, h1, h2, h3, h4, fun i x hx => ?_⟩
  obtain ⟨b, off, e, hc⟩ := h5 i x hx
  exact ⟨b, off, e, hc.beside hp hm⟩
mutual
theorem NodeAt.beside (hp : w.heap[p]? = some (Cnt n T)) (hm : Moved (fun g => g = p) w w') : ∀ {t : Tr} {v : Value}, NodeAt w t v → NodeAt w' t v
  | .mk k n u s keys l, v, ⟨hb, kv, lv, vs, e, h1, h2, h3⟩ => ⟨hb, kv, lv, vs, e, StrsAt.beside hp hm h1, RowsAt.beside hp hm h2, KidsAt.beside hp hm h3⟩
theorem KidsAt.beside (hp : w.heap[p]? = some (Cnt n T)) (hm : Moved (fun g => g = p) w w') : ∀ {l : List Tr} {vs : List Value}, KidsAt w l vs → KidsAt w' l vs
  | [], _, h => h
  | t :: r, _, ⟨v, vr, e, h1, h2⟩ => ⟨v, vr, e, NodeAt.beside hp hm h1, KidsAt.beside hp hm h2⟩
end
end
end Go.Proofs.Ytfbeepkogcmlmaa

/-
  Normal forms, the reference: part, Leaf. Conditions: the node lies in memory.
-/
namespace Go.Proofs.Ytfbeepkogcmlmaa
open Go Go.ChangeShapes Go.WideShapes Go.ChangeAt Go.RowKit Go.Joins Go.Deep
set_option linter.unusedVariables false
set_option linter.unusedSimpArgs false

set_option maxRecDepth 100000 in
set_option maxHeartbeats 4000000 in
theorem rpart_any (x : Int) (w : World) : Calls Try.prog 79 #[.int .i64 x] w fun r w' => r = .returned (.int .i64 (partF x)) ∧ w' = w := by
  by_cases h10 : x = 10
  · subst h10
    have HV : Hid (partF 10 = 0) := by show _ = _; decide +kernel
    rw [HV.out]
    go_enter Try.func79, Try.ntmps79
    go_wp2_with fail
    go_ret
    exact ⟨rfl, rfl⟩
  by_cases h17 : x = 17
  · subst h17
    have HV : Hid (partF 17 = 0) := by show _ = _; decide +kernel
    rw [HV.out]
    go_enter Try.func79, Try.ntmps79
    go_wp2_with fail
    go_ret
    exact ⟨rfl, rfl⟩
  by_cases h11 : x = 11
  · subst h11
    have HV : Hid (partF 11 = 3) := by show _ = _; decide +kernel
    rw [HV.out]
    go_enter Try.func79, Try.ntmps79
    go_wp2_with fail
    go_ret
    exact ⟨rfl, rfl⟩
  by_cases h15 : x = 15
  · subst h15
    have HV : Hid (partF 15 = 3) := by show _ = _; decide +kernel
    rw [HV.out]
    go_enter Try.func79, Try.ntmps79
    go_wp2_with fail
    go_ret
    exact ⟨rfl, rfl⟩
  by_cases h12 : x = 12
  · subst h12
    have HV : Hid (partF 12 = 4) := by show _ = _; decide +kernel
    rw [HV.out]
    go_enter Try.func79, Try.ntmps79
    go_wp2_with fail
    go_ret
    exact ⟨rfl, rfl⟩
  by_cases h16 : x = 16
  · subst h16
    have HV : Hid (partF 16 = 4) := by show _ = _; decide +kernel
    rw [HV.out]
    go_enter Try.func79, Try.ntmps79
    go_wp2_with fail
    go_ret
    exact ⟨rfl, rfl⟩
  by_cases h13 : x = 13
  · subst h13
    have HV : Hid (partF 13 = 5) := by show _ = _; decide +kernel
    rw [HV.out]
    go_enter Try.func79, Try.ntmps79
    go_wp2_with fail
    go_ret
    exact ⟨rfl, rfl⟩
  by_cases h14 : x = 14
  · subst h14
    have HV : Hid (partF 14 = 2) := by show _ = _; decide +kernel
    rw [HV.out]
    go_enter Try.func79, Try.ntmps79
    go_wp2_with fail
    go_ret
    exact ⟨rfl, rfl⟩
  have HV : Hid (partF x = -1) := by show _ = _; unfold partF; simp [h10, h17, h11, h15, h12, h16, h13, h14]
  rw [HV.out]
  have b10 : (x == 10) = false := by simpa using h10
  have b17 : (x == 17) = false := by simpa using h17
  have b11 : (x == 11) = false := by simpa using h11
  have b15 : (x == 15) = false := by simpa using h15
  have b12 : (x == 12) = false := by simpa using h12
  have b16 : (x == 16) = false := by simpa using h16
  have b13 : (x == 13) = false := by simpa using h13
  have b14 : (x == 14) = false := by simpa using h14
  clear h10 h17 h11 h15 h12 h16 h13 h14
  go_enter Try.func79, Try.ntmps79
  go_wp2_with fail
  go_ret
  exact ⟨rfl, rfl⟩
set_option maxRecDepth 100000 in
set_option maxHeartbeats 4000000 in
theorem rleaf_any (x : Int) (w : World) : Calls Try.prog 52 #[.int .i64 x] w fun r w' => r = .returned (.bool (leafB x)) ∧ w' = w := by
  by_cases h1 : 1 ≤ x
  rotate_left
  · have HV : Hid (leafB x = false) := by show _ = _; simp [leafB, h1]
    have hlt : x < 1 := by omega
    clear h1
    go_enter Try.func52, Try.ntmps52
    go_wp2_with fail
    go_ret
    exact ⟨by rw [HV.out]; rfl, rfl⟩
  by_cases h2 : x ≤ 9
  · have HV : Hid (leafB x = true) := by show _ = _; simp [leafB, h1, h2]
    go_enter Try.func52, Try.ntmps52
    go_wp2_with fail
    go_ret
    exact ⟨by rw [HV.out]; rfl, rfl⟩
  · have HV : Hid (leafB x = false) := by show _ = _; simp [leafB, h2]
    have hgt : 9 < x := by omega
    clear h2
    go_enter Try.func52, Try.ntmps52
    go_wp2_with fail
    go_ret
    refine ⟨?_, rfl⟩
    rw [HV.out]
    show Ending.returned (.bool (decide (x ≤ 9))) = _
    rw [show decide (x ≤ 9) = false by simp; omega]
theorem any_drop {p : Tr → Bool} {l : List Tr} {k : Nat} {x : Tr} (h : l[k]? = some x) : (l.drop k).any p = (p x || (l.drop (k + 1)).any p) := by
  have hlt := (List.getElem?_eq_some_iff.1 h).1
  rw [List.drop_eq_getElem_cons hlt]
  have e : l[k] = x := (List.getElem?_eq_some_iff.1 h).2
  rw [e]; rfl
end Go.Proofs.Ytfbeepkogcmlmaa

/-
  Normal forms, the reference: such, part A. Conditions: the node lies in memory.
-/
namespace Go.Proofs.Ytfbeepkogcmlmaa
open Go Go.ChangeShapes Go.WideShapes Go.ChangeAt Go.RowKit Go.Joins Go.Deep
set_option linter.unusedVariables false
set_option linter.unusedSimpArgs false

set_option maxRecDepth 100000 in
set_option maxHeartbeats 4000000 in
theorem rsuch_1 (n u : Int) (s : ByteArray) (keys : List ByteArray) (l : List Tr) (v : Value) (w : World) (hn : NodeAt w (.mk 1 n u s keys l) v) : Calls Try.prog 72 #[v] w fun r w' => r = .returned (.bool (suchR (.mk 1 n u s keys l))) ∧ Grew w w' := by
  obtain ⟨hb, kv, lv, vs, rfl, hks, hrl, hkd⟩ := hn
  have hkl := hkd.length
  have HKD := Lib.hid hkd
  obtain ⟨a4, c4, rfl, hk1, hk2, hk3, _⟩ := hks
  have HRL := Lib.hid hrl
  obtain ⟨a5, c5, rfl, hl1, hl2, hl3, hl4⟩ := hrl
  rw [hkl] at HRL hl1 ⊢
  have hlen : l.length ≤ 9223372036854775807 := by unfold lenok at hl2; omega
  have hkeys : keys.length ≤ 9223372036854775807 := by unfold lenok at hk2; omega
  have hlc : (l.length : Int) ≤ c5 := by omega
  clear hb hk1 hk2 hk3 hl1 hl2 hl3 hl4 hkl hkd
  obtain ⟨res, hres⟩ : ∃ b, suchR (.mk 1 n u s keys l) = b := ⟨_, rfl⟩
  rw [hres]
  have HRES := Lib.hid hres
  clear hres
  have hrt := heap_alloc_new w (.cells #[.int .i64 1, .int .i64 n, .int .u64 u, .string s, .slice a4 keys.length c4, .slice a5 l.length c5] 26)
  have hga := (Grew.refl w).alloc (.cells #[.int .i64 1, .int .i64 n, .int .u64 u, .string s, .slice a4 keys.length c4, .slice a5 l.length c5] 26)
  go_enter Try.func72, Try.ntmps72
  go_upto_region 1 with fail
  obtain ⟨pr, hpr⟩ : ∃ N, w.heap.size = N := ⟨_, rfl⟩
  generalize (w.alloc (.cells #[.int .i64 1, .int .i64 n, .int .u64 u, .string s, .slice a4 keys.length c4, .slice a5 l.length c5] 26)) = x1 at *
  rw [hpr] at hrt ⊢
  have HRT := Lib.hid hrt
  have HG := Lib.hid hga
  clear hrt hga hpr
  have e0 := row_cellT HRT.out 0 _ rfl
  have e1 := row_cellT HRT.out 1 _ rfl
  have e2 := row_cellT HRT.out 2 _ rfl
  have e3 := row_cellT HRT.out 3 _ rfl
  have e4 := row_cellT HRT.out 4 _ rfl
  have e5 := row_cellT HRT.out 5 _ rfl
  by_cases hn0 : n = 0
  rotate_left
  · have hbx : (n != 0) = true := by simpa using hn0
    have HV : Hid (res = false) := by show _ = _; rw [← HRES.out]; simp [suchR, suchB, usesF, leafB, hn0]
    clear hn0
    go_wp2_with fail
    go_ret
    exact ⟨by rw [HV.out]; rfl, HG.out⟩
  have hbn : (n != 0) = false := by simpa using hn0
  by_cases hu0 : u = 0
  rotate_left
  · have hbx : (u != 0) = true := by simpa using hu0
    have HV : Hid (res = false) := by show _ = _; rw [← HRES.out]; simp [suchR, suchB, usesF, leafB, hu0]
    clear hu0
    go_wp2_with fail
    go_ret
    exact ⟨by rw [HV.out]; rfl, HG.out⟩
  have hbu : (u != 0) = false := by simpa using hu0
  by_cases hs0 : s.toList = []
  rotate_left
  · have hbx : ¬ s.toList = [] := hs0
    have HV : Hid (res = false) := by show _ = _; rw [← HRES.out]; simp [suchR, suchB, usesF, leafB, hs0]
    clear hs0
    go_wp2_with fail
    go_ret
    exact ⟨by rw [HV.out]; rfl, HG.out⟩
  by_cases hk0 : keys = []
  rotate_left
  · have hbx : 0 < keys.length := List.length_pos_iff.2 hk0
    have HV : Hid (res = false) := by show _ = _; rw [← HRES.out]; simp [suchR, suchB, usesF, leafB, hk0]
    clear hk0
    go_wp2_with fail
    go_ret
    exact ⟨by rw [HV.out]; rfl, HG.out⟩
  subst hk0
  go_wp2_with fail
  refine (rleaf_any 1 x1).mono ?_
  rintro r wq ⟨rfl, e⟩
  rw [e]
  clear e wq
  rw [show leafB 1 = true from by decide +kernel]
  by_cases hl0 : l = []
  rotate_left
  · have hbx : 0 < l.length := List.length_pos_iff.2 hl0
    have HV : Hid (res = false) := by show _ = _; rw [← HRES.out]; simp [suchR, suchB, usesF, leafB, hl0]
    clear hl0
    go_wp2_with fail
    go_ret
    exact ⟨by rw [HV.out]; rfl, HG.out⟩
  subst hl0
  have HV : Hid (res = true) := by show _ = _; rw [← HRES.out]; simp [suchR, suchB, usesF, leafB, hn0, hu0, hs0]
  go_wp2_with fail
  go_loop [6] (fun i => i = .int .i64 0) (fun _ => 0)
  case atStart => exact rfl
  case round =>
    obtain rfl := hrel
    go_wp2_with fail
    go_ret
    exact ⟨by rw [HV.out]; rfl, HG.out⟩
set_option maxRecDepth 100000 in
set_option maxHeartbeats 4000000 in
theorem rsuch_2 (n u : Int) (s : ByteArray) (keys : List ByteArray) (l : List Tr) (v : Value) (w : World) (hn : NodeAt w (.mk 2 n u s keys l) v) : Calls Try.prog 72 #[v] w fun r w' => r = .returned (.bool (suchR (.mk 2 n u s keys l))) ∧ Grew w w' := by
  obtain ⟨hb, kv, lv, vs, rfl, hks, hrl, hkd⟩ := hn
  have hkl := hkd.length
  have HKD := Lib.hid hkd
  obtain ⟨a4, c4, rfl, hk1, hk2, hk3, _⟩ := hks
  have HRL := Lib.hid hrl
  obtain ⟨a5, c5, rfl, hl1, hl2, hl3, hl4⟩ := hrl
  rw [hkl] at HRL hl1 ⊢
  have hlen : l.length ≤ 9223372036854775807 := by unfold lenok at hl2; omega
  have hkeys : keys.length ≤ 9223372036854775807 := by unfold lenok at hk2; omega
  have hlc : (l.length : Int) ≤ c5 := by omega
  clear hb hk1 hk2 hk3 hl1 hl2 hl3 hl4 hkl hkd
  obtain ⟨res, hres⟩ : ∃ b, suchR (.mk 2 n u s keys l) = b := ⟨_, rfl⟩
  rw [hres]
  have HRES := Lib.hid hres
  clear hres
  have hrt := heap_alloc_new w (.cells #[.int .i64 2, .int .i64 n, .int .u64 u, .string s, .slice a4 keys.length c4, .slice a5 l.length c5] 26)
  have hga := (Grew.refl w).alloc (.cells #[.int .i64 2, .int .i64 n, .int .u64 u, .string s, .slice a4 keys.length c4, .slice a5 l.length c5] 26)
  go_enter Try.func72, Try.ntmps72
  go_upto_region 1 with fail
  obtain ⟨pr, hpr⟩ : ∃ N, w.heap.size = N := ⟨_, rfl⟩
  generalize (w.alloc (.cells #[.int .i64 2, .int .i64 n, .int .u64 u, .string s, .slice a4 keys.length c4, .slice a5 l.length c5] 26)) = x1 at *
  rw [hpr] at hrt ⊢
  have HRT := Lib.hid hrt
  have HG := Lib.hid hga
  clear hrt hga hpr
  have e0 := row_cellT HRT.out 0 _ rfl
  have e1 := row_cellT HRT.out 1 _ rfl
  have e2 := row_cellT HRT.out 2 _ rfl
  have e3 := row_cellT HRT.out 3 _ rfl
  have e4 := row_cellT HRT.out 4 _ rfl
  have e5 := row_cellT HRT.out 5 _ rfl
  by_cases hu0 : u = 0
  rotate_left
  · have hbx : (u != 0) = true := by simpa using hu0
    have HV : Hid (res = false) := by show _ = _; rw [← HRES.out]; simp [suchR, suchB, usesF, leafB, hu0]
    clear hu0
    go_wp2_with fail
    go_ret
    exact ⟨by rw [HV.out]; rfl, HG.out⟩
  have hbu : (u != 0) = false := by simpa using hu0
  by_cases hs0 : s.toList = []
  rotate_left
  · have hbx : ¬ s.toList = [] := hs0
    have HV : Hid (res = false) := by show _ = _; rw [← HRES.out]; simp [suchR, suchB, usesF, leafB, hs0]
    clear hs0
    go_wp2_with fail
    go_ret
    exact ⟨by rw [HV.out]; rfl, HG.out⟩
  by_cases hk0 : keys = []
  rotate_left
  · have hbx : 0 < keys.length := List.length_pos_iff.2 hk0
    have HV : Hid (res = false) := by show _ = _; rw [← HRES.out]; simp [suchR, suchB, usesF, leafB, hk0]
    clear hk0
    go_wp2_with fail
    go_ret
    exact ⟨by rw [HV.out]; rfl, HG.out⟩
  subst hk0
  go_wp2_with fail
  refine (rleaf_any 2 x1).mono ?_
  rintro r wq ⟨rfl, e⟩
  rw [e]
  clear e wq
  rw [show leafB 2 = true from by decide +kernel]
  by_cases hl0 : l = []
  rotate_left
  · have hbx : 0 < l.length := List.length_pos_iff.2 hl0
    have HV : Hid (res = false) := by show _ = _; rw [← HRES.out]; simp [suchR, suchB, usesF, leafB, hl0]
    clear hl0
    go_wp2_with fail
    go_ret
    exact ⟨by rw [HV.out]; rfl, HG.out⟩
  subst hl0
  by_cases hn2 : n = 0 ∨ n = 1
  rotate_left
  · have hb1 : (n != 0) = true := by simp; omega
    have hb2 : (n != 1) = true := by simp; omega
    have HV : Hid (res = false) := by show _ = _; rw [← HRES.out]; simp [suchR, suchB, usesF, leafB]; omega
    clear hn2
    go_wp2_with fail
    go_ret
    exact ⟨by rw [HV.out]; rfl, HG.out⟩
  rcases hn2 with rfl | rfl
  · have HV : Hid (res = true) := by show _ = _; rw [← HRES.out]; simp [suchR, suchB, usesF, leafB, hu0, hs0]
    go_wp2_with fail
    go_loop [6] (fun i => i = .int .i64 0) (fun _ => 0)
    case atStart => exact rfl
    case round =>
      obtain rfl := hrel
      go_wp2_with fail
      go_ret
      exact ⟨by rw [HV.out]; rfl, HG.out⟩
  · have HV : Hid (res = true) := by show _ = _; rw [← HRES.out]; simp [suchR, suchB, usesF, leafB, hu0, hs0]
    go_wp2_with fail
    go_loop [6] (fun i => i = .int .i64 0) (fun _ => 0)
    case atStart => exact rfl
    case round =>
      obtain rfl := hrel
      go_wp2_with fail
      go_ret
      exact ⟨by rw [HV.out]; rfl, HG.out⟩
set_option maxRecDepth 100000 in
set_option maxHeartbeats 4000000 in
theorem rsuch_3 (n u : Int) (s : ByteArray) (keys : List ByteArray) (l : List Tr) (v : Value) (w : World) (hn : NodeAt w (.mk 3 n u s keys l) v) : Calls Try.prog 72 #[v] w fun r w' => r = .returned (.bool (suchR (.mk 3 n u s keys l))) ∧ Grew w w' := by
  obtain ⟨hb, kv, lv, vs, rfl, hks, hrl, hkd⟩ := hn
  have hkl := hkd.length
  have HKD := Lib.hid hkd
  obtain ⟨a4, c4, rfl, hk1, hk2, hk3, _⟩ := hks
  have HRL := Lib.hid hrl
  obtain ⟨a5, c5, rfl, hl1, hl2, hl3, hl4⟩ := hrl
  rw [hkl] at HRL hl1 ⊢
  have hlen : l.length ≤ 9223372036854775807 := by unfold lenok at hl2; omega
  have hkeys : keys.length ≤ 9223372036854775807 := by unfold lenok at hk2; omega
  have hlc : (l.length : Int) ≤ c5 := by omega
  clear hb hk1 hk2 hk3 hl1 hl2 hl3 hl4 hkl hkd
  obtain ⟨res, hres⟩ : ∃ b, suchR (.mk 3 n u s keys l) = b := ⟨_, rfl⟩
  rw [hres]
  have HRES := Lib.hid hres
  clear hres
  have hrt := heap_alloc_new w (.cells #[.int .i64 3, .int .i64 n, .int .u64 u, .string s, .slice a4 keys.length c4, .slice a5 l.length c5] 26)
  have hga := (Grew.refl w).alloc (.cells #[.int .i64 3, .int .i64 n, .int .u64 u, .string s, .slice a4 keys.length c4, .slice a5 l.length c5] 26)
  go_enter Try.func72, Try.ntmps72
  go_upto_region 1 with fail
  obtain ⟨pr, hpr⟩ : ∃ N, w.heap.size = N := ⟨_, rfl⟩
  generalize (w.alloc (.cells #[.int .i64 3, .int .i64 n, .int .u64 u, .string s, .slice a4 keys.length c4, .slice a5 l.length c5] 26)) = x1 at *
  rw [hpr] at hrt ⊢
  have HRT := Lib.hid hrt
  have HG := Lib.hid hga
  clear hrt hga hpr
  have e0 := row_cellT HRT.out 0 _ rfl
  have e1 := row_cellT HRT.out 1 _ rfl
  have e2 := row_cellT HRT.out 2 _ rfl
  have e3 := row_cellT HRT.out 3 _ rfl
  have e4 := row_cellT HRT.out 4 _ rfl
  have e5 := row_cellT HRT.out 5 _ rfl
  by_cases hu0 : u = 0
  rotate_left
  · have hbx : (u != 0) = true := by simpa using hu0
    have HV : Hid (res = false) := by show _ = _; rw [← HRES.out]; simp [suchR, suchB, usesF, leafB, hu0]
    clear hu0
    go_wp2_with fail
    go_ret
    exact ⟨by rw [HV.out]; rfl, HG.out⟩
  have hbu : (u != 0) = false := by simpa using hu0
  by_cases hs0 : s.toList = []
  rotate_left
  · have hbx : ¬ s.toList = [] := hs0
    have HV : Hid (res = false) := by show _ = _; rw [← HRES.out]; simp [suchR, suchB, usesF, leafB, hs0]
    clear hs0
    go_wp2_with fail
    go_ret
    exact ⟨by rw [HV.out]; rfl, HG.out⟩
  by_cases hk0 : keys = []
  rotate_left
  · have hbx : 0 < keys.length := List.length_pos_iff.2 hk0
    have HV : Hid (res = false) := by show _ = _; rw [← HRES.out]; simp [suchR, suchB, usesF, leafB, hk0]
    clear hk0
    go_wp2_with fail
    go_ret
    exact ⟨by rw [HV.out]; rfl, HG.out⟩
  subst hk0
  go_wp2_with fail
  refine (rleaf_any 3 x1).mono ?_
  rintro r wq ⟨rfl, e⟩
  rw [e]
  clear e wq
  rw [show leafB 3 = true from by decide +kernel]
  by_cases hl0 : l = []
  rotate_left
  · have hbx : 0 < l.length := List.length_pos_iff.2 hl0
    have HV : Hid (res = false) := by show _ = _; rw [← HRES.out]; simp [suchR, suchB, usesF, leafB, hl0]
    clear hl0
    go_wp2_with fail
    go_ret
    exact ⟨by rw [HV.out]; rfl, HG.out⟩
  subst hl0
  have HV : Hid (res = true) := by show _ = _; rw [← HRES.out]; simp [suchR, suchB, usesF, leafB, hu0, hs0]
  go_wp2_with fail
  go_loop [6] (fun i => i = .int .i64 0) (fun _ => 0)
  case atStart => exact rfl
  case round =>
    obtain rfl := hrel
    go_wp2_with fail
    go_ret
    exact ⟨by rw [HV.out]; rfl, HG.out⟩
set_option maxRecDepth 100000 in
set_option maxHeartbeats 4000000 in
theorem rsuch_4 (n u : Int) (s : ByteArray) (keys : List ByteArray) (l : List Tr) (v : Value) (w : World) (hn : NodeAt w (.mk 4 n u s keys l) v) : Calls Try.prog 72 #[v] w fun r w' => r = .returned (.bool (suchR (.mk 4 n u s keys l))) ∧ Grew w w' := by
  obtain ⟨hb, kv, lv, vs, rfl, hks, hrl, hkd⟩ := hn
  have hkl := hkd.length
  have HKD := Lib.hid hkd
  obtain ⟨a4, c4, rfl, hk1, hk2, hk3, _⟩ := hks
  have HRL := Lib.hid hrl
  obtain ⟨a5, c5, rfl, hl1, hl2, hl3, hl4⟩ := hrl
  rw [hkl] at HRL hl1 ⊢
  have hlen : l.length ≤ 9223372036854775807 := by unfold lenok at hl2; omega
  have hkeys : keys.length ≤ 9223372036854775807 := by unfold lenok at hk2; omega
  have hlc : (l.length : Int) ≤ c5 := by omega
  clear hb hk1 hk2 hk3 hl1 hl2 hl3 hl4 hkl hkd
  obtain ⟨res, hres⟩ : ∃ b, suchR (.mk 4 n u s keys l) = b := ⟨_, rfl⟩
  rw [hres]
  have HRES := Lib.hid hres
  clear hres
  have hrt := heap_alloc_new w (.cells #[.int .i64 4, .int .i64 n, .int .u64 u, .string s, .slice a4 keys.length c4, .slice a5 l.length c5] 26)
  have hga := (Grew.refl w).alloc (.cells #[.int .i64 4, .int .i64 n, .int .u64 u, .string s, .slice a4 keys.length c4, .slice a5 l.length c5] 26)
  go_enter Try.func72, Try.ntmps72
  go_upto_region 1 with fail
  obtain ⟨pr, hpr⟩ : ∃ N, w.heap.size = N := ⟨_, rfl⟩
  generalize (w.alloc (.cells #[.int .i64 4, .int .i64 n, .int .u64 u, .string s, .slice a4 keys.length c4, .slice a5 l.length c5] 26)) = x1 at *
  rw [hpr] at hrt ⊢
  have HRT := Lib.hid hrt
  have HG := Lib.hid hga
  clear hrt hga hpr
  have e0 := row_cellT HRT.out 0 _ rfl
  have e1 := row_cellT HRT.out 1 _ rfl
  have e2 := row_cellT HRT.out 2 _ rfl
  have e3 := row_cellT HRT.out 3 _ rfl
  have e4 := row_cellT HRT.out 4 _ rfl
  have e5 := row_cellT HRT.out 5 _ rfl
  by_cases hn0 : n = 0
  rotate_left
  · have hbx : (n != 0) = true := by simpa using hn0
    have HV : Hid (res = false) := by show _ = _; rw [← HRES.out]; simp [suchR, suchB, usesF, leafB, hn0]
    clear hn0
    go_wp2_with fail
    go_ret
    exact ⟨by rw [HV.out]; rfl, HG.out⟩
  have hbn : (n != 0) = false := by simpa using hn0
  by_cases hs0 : s.toList = []
  rotate_left
  · have hbx : ¬ s.toList = [] := hs0
    have HV : Hid (res = false) := by show _ = _; rw [← HRES.out]; simp [suchR, suchB, usesF, leafB, hs0]
    clear hs0
    go_wp2_with fail
    go_ret
    exact ⟨by rw [HV.out]; rfl, HG.out⟩
  by_cases hk0 : keys = []
  rotate_left
  · have hbx : 0 < keys.length := List.length_pos_iff.2 hk0
    have HV : Hid (res = false) := by show _ = _; rw [← HRES.out]; simp [suchR, suchB, usesF, leafB, hk0]
    clear hk0
    go_wp2_with fail
    go_ret
    exact ⟨by rw [HV.out]; rfl, HG.out⟩
  subst hk0
  go_wp2_with fail
  refine (rleaf_any 4 x1).mono ?_
  rintro r wq ⟨rfl, e⟩
  rw [e]
  clear e wq
  rw [show leafB 4 = true from by decide +kernel]
  by_cases hl0 : l = []
  rotate_left
  · have hbx : 0 < l.length := List.length_pos_iff.2 hl0
    have HV : Hid (res = false) := by show _ = _; rw [← HRES.out]; simp [suchR, suchB, usesF, leafB, hl0]
    clear hl0
    go_wp2_with fail
    go_ret
    exact ⟨by rw [HV.out]; rfl, HG.out⟩
  subst hl0
  have HV : Hid (res = true) := by show _ = _; rw [← HRES.out]; simp [suchR, suchB, usesF, leafB, hn0, hs0]
  go_wp2_with fail
  go_loop [6] (fun i => i = .int .i64 0) (fun _ => 0)
  case atStart => exact rfl
  case round =>
    obtain rfl := hrel
    go_wp2_with fail
    go_ret
    exact ⟨by rw [HV.out]; rfl, HG.out⟩
end Go.Proofs.Ytfbeepkogcmlmaa

/-
  Normal forms, the reference: such, part B. Conditions: the node lies in memory.
-/
namespace Go.Proofs.Ytfbeepkogcmlmaa
open Go Go.ChangeShapes Go.WideShapes Go.ChangeAt Go.RowKit Go.Joins Go.Deep
set_option linter.unusedVariables false
set_option linter.unusedSimpArgs false

set_option maxRecDepth 100000 in
set_option maxHeartbeats 4000000 in
theorem rsuch_5 (n u : Int) (s : ByteArray) (keys : List ByteArray) (l : List Tr) (v : Value) (w : World) (hn : NodeAt w (.mk 5 n u s keys l) v) : Calls Try.prog 72 #[v] w fun r w' => r = .returned (.bool (suchR (.mk 5 n u s keys l))) ∧ Grew w w' := by
  obtain ⟨hb, kv, lv, vs, rfl, hks, hrl, hkd⟩ := hn
  have hkl := hkd.length
  have HKD := Lib.hid hkd
  obtain ⟨a4, c4, rfl, hk1, hk2, hk3, _⟩ := hks
  have HRL := Lib.hid hrl
  obtain ⟨a5, c5, rfl, hl1, hl2, hl3, hl4⟩ := hrl
  rw [hkl] at HRL hl1 ⊢
  have hlen : l.length ≤ 9223372036854775807 := by unfold lenok at hl2; omega
  have hkeys : keys.length ≤ 9223372036854775807 := by unfold lenok at hk2; omega
  have hlc : (l.length : Int) ≤ c5 := by omega
  clear hb hk1 hk2 hk3 hl1 hl2 hl3 hl4 hkl hkd
  obtain ⟨res, hres⟩ : ∃ b, suchR (.mk 5 n u s keys l) = b := ⟨_, rfl⟩
  rw [hres]
  have HRES := Lib.hid hres
  clear hres
  have hrt := heap_alloc_new w (.cells #[.int .i64 5, .int .i64 n, .int .u64 u, .string s, .slice a4 keys.length c4, .slice a5 l.length c5] 26)
  have hga := (Grew.refl w).alloc (.cells #[.int .i64 5, .int .i64 n, .int .u64 u, .string s, .slice a4 keys.length c4, .slice a5 l.length c5] 26)
  go_enter Try.func72, Try.ntmps72
  go_upto_region 1 with fail
  obtain ⟨pr, hpr⟩ : ∃ N, w.heap.size = N := ⟨_, rfl⟩
  generalize (w.alloc (.cells #[.int .i64 5, .int .i64 n, .int .u64 u, .string s, .slice a4 keys.length c4, .slice a5 l.length c5] 26)) = x1 at *
  rw [hpr] at hrt ⊢
  have HRT := Lib.hid hrt
  have HG := Lib.hid hga
  clear hrt hga hpr
  have e0 := row_cellT HRT.out 0 _ rfl
  have e1 := row_cellT HRT.out 1 _ rfl
  have e2 := row_cellT HRT.out 2 _ rfl
  have e3 := row_cellT HRT.out 3 _ rfl
  have e4 := row_cellT HRT.out 4 _ rfl
  have e5 := row_cellT HRT.out 5 _ rfl
  by_cases hn0 : n = 0
  rotate_left
  · have hbx : (n != 0) = true := by simpa using hn0
    have HV : Hid (res = false) := by show _ = _; rw [← HRES.out]; simp [suchR, suchB, usesF, leafB, hn0]
    clear hn0
    go_wp2_with fail
    go_ret
    exact ⟨by rw [HV.out]; rfl, HG.out⟩
  have hbn : (n != 0) = false := by simpa using hn0
  by_cases hu0 : u = 0
  rotate_left
  · have hbx : (u != 0) = true := by simpa using hu0
    have HV : Hid (res = false) := by show _ = _; rw [← HRES.out]; simp [suchR, suchB, usesF, leafB, hu0]
    clear hu0
    go_wp2_with fail
    go_ret
    exact ⟨by rw [HV.out]; rfl, HG.out⟩
  have hbu : (u != 0) = false := by simpa using hu0
  by_cases hk0 : keys = []
  rotate_left
  · have hbx : 0 < keys.length := List.length_pos_iff.2 hk0
    have HV : Hid (res = false) := by show _ = _; rw [← HRES.out]; simp [suchR, suchB, usesF, leafB, hk0]
    clear hk0
    go_wp2_with fail
    go_ret
    exact ⟨by rw [HV.out]; rfl, HG.out⟩
  subst hk0
  go_wp2_with fail
  refine (rleaf_any 5 x1).mono ?_
  rintro r wq ⟨rfl, e⟩
  rw [e]
  clear e wq
  rw [show leafB 5 = true from by decide +kernel]
  by_cases hl0 : l = []
  rotate_left
  · have hbx : 0 < l.length := List.length_pos_iff.2 hl0
    have HV : Hid (res = false) := by show _ = _; rw [← HRES.out]; simp [suchR, suchB, usesF, leafB, hl0]
    clear hl0
    go_wp2_with fail
    go_ret
    exact ⟨by rw [HV.out]; rfl, HG.out⟩
  subst hl0
  have HV : Hid (res = true) := by show _ = _; rw [← HRES.out]; simp [suchR, suchB, usesF, leafB, hn0, hu0]
  go_wp2_with fail
  go_loop [6] (fun i => i = .int .i64 0) (fun _ => 0)
  case atStart => exact rfl
  case round =>
    obtain rfl := hrel
    go_wp2_with fail
    go_ret
    exact ⟨by rw [HV.out]; rfl, HG.out⟩
set_option maxRecDepth 100000 in
set_option maxHeartbeats 4000000 in
theorem rsuch_6 (n u : Int) (s : ByteArray) (keys : List ByteArray) (l : List Tr) (v : Value) (w : World) (hn : NodeAt w (.mk 6 n u s keys l) v) : Calls Try.prog 72 #[v] w fun r w' => r = .returned (.bool (suchR (.mk 6 n u s keys l))) ∧ Grew w w' := by
  obtain ⟨hb, kv, lv, vs, rfl, hks, hrl, hkd⟩ := hn
  have hkl := hkd.length
  have HKD := Lib.hid hkd
  obtain ⟨a4, c4, rfl, hk1, hk2, hk3, _⟩ := hks
  have HRL := Lib.hid hrl
  obtain ⟨a5, c5, rfl, hl1, hl2, hl3, hl4⟩ := hrl
  rw [hkl] at HRL hl1 ⊢
  have hlen : l.length ≤ 9223372036854775807 := by unfold lenok at hl2; omega
  have hkeys : keys.length ≤ 9223372036854775807 := by unfold lenok at hk2; omega
  have hlc : (l.length : Int) ≤ c5 := by omega
  clear hb hk1 hk2 hk3 hl1 hl2 hl3 hl4 hkl hkd
  obtain ⟨res, hres⟩ : ∃ b, suchR (.mk 6 n u s keys l) = b := ⟨_, rfl⟩
  rw [hres]
  have HRES := Lib.hid hres
  clear hres
  have hrt := heap_alloc_new w (.cells #[.int .i64 6, .int .i64 n, .int .u64 u, .string s, .slice a4 keys.length c4, .slice a5 l.length c5] 26)
  have hga := (Grew.refl w).alloc (.cells #[.int .i64 6, .int .i64 n, .int .u64 u, .string s, .slice a4 keys.length c4, .slice a5 l.length c5] 26)
  go_enter Try.func72, Try.ntmps72
  go_upto_region 1 with fail
  obtain ⟨pr, hpr⟩ : ∃ N, w.heap.size = N := ⟨_, rfl⟩
  generalize (w.alloc (.cells #[.int .i64 6, .int .i64 n, .int .u64 u, .string s, .slice a4 keys.length c4, .slice a5 l.length c5] 26)) = x1 at *
  rw [hpr] at hrt ⊢
  have HRT := Lib.hid hrt
  have HG := Lib.hid hga
  clear hrt hga hpr
  have e0 := row_cellT HRT.out 0 _ rfl
  have e1 := row_cellT HRT.out 1 _ rfl
  have e2 := row_cellT HRT.out 2 _ rfl
  have e3 := row_cellT HRT.out 3 _ rfl
  have e4 := row_cellT HRT.out 4 _ rfl
  have e5 := row_cellT HRT.out 5 _ rfl
  by_cases hn0 : n = 0
  rotate_left
  · have hbx : (n != 0) = true := by simpa using hn0
    have HV : Hid (res = false) := by show _ = _; rw [← HRES.out]; simp [suchR, suchB, usesF, leafB, hn0]
    clear hn0
    go_wp2_with fail
    go_ret
    exact ⟨by rw [HV.out]; rfl, HG.out⟩
  have hbn : (n != 0) = false := by simpa using hn0
  by_cases hu0 : u = 0
  rotate_left
  · have hbx : (u != 0) = true := by simpa using hu0
    have HV : Hid (res = false) := by show _ = _; rw [← HRES.out]; simp [suchR, suchB, usesF, leafB, hu0]
    clear hu0
    go_wp2_with fail
    go_ret
    exact ⟨by rw [HV.out]; rfl, HG.out⟩
  have hbu : (u != 0) = false := by simpa using hu0
  by_cases hk0 : keys = []
  rotate_left
  · have hbx : 0 < keys.length := List.length_pos_iff.2 hk0
    have HV : Hid (res = false) := by show _ = _; rw [← HRES.out]; simp [suchR, suchB, usesF, leafB, hk0]
    clear hk0
    go_wp2_with fail
    go_ret
    exact ⟨by rw [HV.out]; rfl, HG.out⟩
  subst hk0
  go_wp2_with fail
  refine (rleaf_any 6 x1).mono ?_
  rintro r wq ⟨rfl, e⟩
  rw [e]
  clear e wq
  rw [show leafB 6 = true from by decide +kernel]
  by_cases hl0 : l = []
  rotate_left
  · have hbx : 0 < l.length := List.length_pos_iff.2 hl0
    have HV : Hid (res = false) := by show _ = _; rw [← HRES.out]; simp [suchR, suchB, usesF, leafB, hl0]
    clear hl0
    go_wp2_with fail
    go_ret
    exact ⟨by rw [HV.out]; rfl, HG.out⟩
  subst hl0
  have HV : Hid (res = true) := by show _ = _; rw [← HRES.out]; simp [suchR, suchB, usesF, leafB, hn0, hu0]
  go_wp2_with fail
  go_loop [6] (fun i => i = .int .i64 0) (fun _ => 0)
  case atStart => exact rfl
  case round =>
    obtain rfl := hrel
    go_wp2_with fail
    go_ret
    exact ⟨by rw [HV.out]; rfl, HG.out⟩
set_option maxRecDepth 100000 in
set_option maxHeartbeats 4000000 in
theorem rsuch_7 (n u : Int) (s : ByteArray) (keys : List ByteArray) (l : List Tr) (v : Value) (w : World) (hn : NodeAt w (.mk 7 n u s keys l) v) : Calls Try.prog 72 #[v] w fun r w' => r = .returned (.bool (suchR (.mk 7 n u s keys l))) ∧ Grew w w' := by
  obtain ⟨hb, kv, lv, vs, rfl, hks, hrl, hkd⟩ := hn
  have hkl := hkd.length
  have HKD := Lib.hid hkd
  obtain ⟨a4, c4, rfl, hk1, hk2, hk3, _⟩ := hks
  have HRL := Lib.hid hrl
  obtain ⟨a5, c5, rfl, hl1, hl2, hl3, hl4⟩ := hrl
  rw [hkl] at HRL hl1 ⊢
  have hlen : l.length ≤ 9223372036854775807 := by unfold lenok at hl2; omega
  have hkeys : keys.length ≤ 9223372036854775807 := by unfold lenok at hk2; omega
  have hlc : (l.length : Int) ≤ c5 := by omega
  clear hb hk1 hk2 hk3 hl1 hl2 hl3 hl4 hkl hkd
  obtain ⟨res, hres⟩ : ∃ b, suchR (.mk 7 n u s keys l) = b := ⟨_, rfl⟩
  rw [hres]
  have HRES := Lib.hid hres
  clear hres
  have hrt := heap_alloc_new w (.cells #[.int .i64 7, .int .i64 n, .int .u64 u, .string s, .slice a4 keys.length c4, .slice a5 l.length c5] 26)
  have hga := (Grew.refl w).alloc (.cells #[.int .i64 7, .int .i64 n, .int .u64 u, .string s, .slice a4 keys.length c4, .slice a5 l.length c5] 26)
  go_enter Try.func72, Try.ntmps72
  go_upto_region 1 with fail
  obtain ⟨pr, hpr⟩ : ∃ N, w.heap.size = N := ⟨_, rfl⟩
  generalize (w.alloc (.cells #[.int .i64 7, .int .i64 n, .int .u64 u, .string s, .slice a4 keys.length c4, .slice a5 l.length c5] 26)) = x1 at *
  rw [hpr] at hrt ⊢
  have HRT := Lib.hid hrt
  have HG := Lib.hid hga
  clear hrt hga hpr
  have e0 := row_cellT HRT.out 0 _ rfl
  have e1 := row_cellT HRT.out 1 _ rfl
  have e2 := row_cellT HRT.out 2 _ rfl
  have e3 := row_cellT HRT.out 3 _ rfl
  have e4 := row_cellT HRT.out 4 _ rfl
  have e5 := row_cellT HRT.out 5 _ rfl
  by_cases hn0 : n = 0
  rotate_left
  · have hbx : (n != 0) = true := by simpa using hn0
    have HV : Hid (res = false) := by show _ = _; rw [← HRES.out]; simp [suchR, suchB, usesF, leafB, hn0]
    clear hn0
    go_wp2_with fail
    go_ret
    exact ⟨by rw [HV.out]; rfl, HG.out⟩
  have hbn : (n != 0) = false := by simpa using hn0
  by_cases hu0 : u = 0
  rotate_left
  · have hbx : (u != 0) = true := by simpa using hu0
    have HV : Hid (res = false) := by show _ = _; rw [← HRES.out]; simp [suchR, suchB, usesF, leafB, hu0]
    clear hu0
    go_wp2_with fail
    go_ret
    exact ⟨by rw [HV.out]; rfl, HG.out⟩
  have hbu : (u != 0) = false := by simpa using hu0
  by_cases hk0 : keys = []
  rotate_left
  · have hbx : 0 < keys.length := List.length_pos_iff.2 hk0
    have HV : Hid (res = false) := by show _ = _; rw [← HRES.out]; simp [suchR, suchB, usesF, leafB, hk0]
    clear hk0
    go_wp2_with fail
    go_ret
    exact ⟨by rw [HV.out]; rfl, HG.out⟩
  subst hk0
  go_wp2_with fail
  refine (rleaf_any 7 x1).mono ?_
  rintro r wq ⟨rfl, e⟩
  rw [e]
  clear e wq
  rw [show leafB 7 = true from by decide +kernel]
  by_cases hl0 : l = []
  rotate_left
  · have hbx : 0 < l.length := List.length_pos_iff.2 hl0
    have HV : Hid (res = false) := by show _ = _; rw [← HRES.out]; simp [suchR, suchB, usesF, leafB, hl0]
    clear hl0
    go_wp2_with fail
    go_ret
    exact ⟨by rw [HV.out]; rfl, HG.out⟩
  subst hl0
  have HV : Hid (res = true) := by show _ = _; rw [← HRES.out]; simp [suchR, suchB, usesF, leafB, hn0, hu0]
  go_wp2_with fail
  go_loop [6] (fun i => i = .int .i64 0) (fun _ => 0)
  case atStart => exact rfl
  case round =>
    obtain rfl := hrel
    go_wp2_with fail
    go_ret
    exact ⟨by rw [HV.out]; rfl, HG.out⟩
set_option maxRecDepth 100000 in
set_option maxHeartbeats 4000000 in
theorem rsuch_8 (n u : Int) (s : ByteArray) (keys : List ByteArray) (l : List Tr) (v : Value) (w : World) (hn : NodeAt w (.mk 8 n u s keys l) v) : Calls Try.prog 72 #[v] w fun r w' => r = .returned (.bool (suchR (.mk 8 n u s keys l))) ∧ Grew w w' := by
  obtain ⟨hb, kv, lv, vs, rfl, hks, hrl, hkd⟩ := hn
  have hkl := hkd.length
  have HKD := Lib.hid hkd
  obtain ⟨a4, c4, rfl, hk1, hk2, hk3, _⟩ := hks
  have HRL := Lib.hid hrl
  obtain ⟨a5, c5, rfl, hl1, hl2, hl3, hl4⟩ := hrl
  rw [hkl] at HRL hl1 ⊢
  have hlen : l.length ≤ 9223372036854775807 := by unfold lenok at hl2; omega
  have hkeys : keys.length ≤ 9223372036854775807 := by unfold lenok at hk2; omega
  have hlc : (l.length : Int) ≤ c5 := by omega
  clear hb hk1 hk2 hk3 hl1 hl2 hl3 hl4 hkl hkd
  obtain ⟨res, hres⟩ : ∃ b, suchR (.mk 8 n u s keys l) = b := ⟨_, rfl⟩
  rw [hres]
  have HRES := Lib.hid hres
  clear hres
  have hrt := heap_alloc_new w (.cells #[.int .i64 8, .int .i64 n, .int .u64 u, .string s, .slice a4 keys.length c4, .slice a5 l.length c5] 26)
  have hga := (Grew.refl w).alloc (.cells #[.int .i64 8, .int .i64 n, .int .u64 u, .string s, .slice a4 keys.length c4, .slice a5 l.length c5] 26)
  go_enter Try.func72, Try.ntmps72
  go_upto_region 1 with fail
  obtain ⟨pr, hpr⟩ : ∃ N, w.heap.size = N := ⟨_, rfl⟩
  generalize (w.alloc (.cells #[.int .i64 8, .int .i64 n, .int .u64 u, .string s, .slice a4 keys.length c4, .slice a5 l.length c5] 26)) = x1 at *
  rw [hpr] at hrt ⊢
  have HRT := Lib.hid hrt
  have HG := Lib.hid hga
  clear hrt hga hpr
  have e0 := row_cellT HRT.out 0 _ rfl
  have e1 := row_cellT HRT.out 1 _ rfl
  have e2 := row_cellT HRT.out 2 _ rfl
  have e3 := row_cellT HRT.out 3 _ rfl
  have e4 := row_cellT HRT.out 4 _ rfl
  have e5 := row_cellT HRT.out 5 _ rfl
  by_cases hu0 : u = 0
  rotate_left
  · have hbx : (u != 0) = true := by simpa using hu0
    have HV : Hid (res = false) := by show _ = _; rw [← HRES.out]; simp [suchR, suchB, usesF, leafB, hu0]
    clear hu0
    go_wp2_with fail
    go_ret
    exact ⟨by rw [HV.out]; rfl, HG.out⟩
  have hbu : (u != 0) = false := by simpa using hu0
  by_cases hs0 : s.toList = []
  rotate_left
  · have hbx : ¬ s.toList = [] := hs0
    have HV : Hid (res = false) := by show _ = _; rw [← HRES.out]; simp [suchR, suchB, usesF, leafB, hs0]
    clear hs0
    go_wp2_with fail
    go_ret
    exact ⟨by rw [HV.out]; rfl, HG.out⟩
  by_cases hk0 : keys = []
  rotate_left
  · have hbx : 0 < keys.length := List.length_pos_iff.2 hk0
    have HV : Hid (res = false) := by show _ = _; rw [← HRES.out]; simp [suchR, suchB, usesF, leafB, hk0]
    clear hk0
    go_wp2_with fail
    go_ret
    exact ⟨by rw [HV.out]; rfl, HG.out⟩
  subst hk0
  go_wp2_with fail
  refine (rleaf_any 8 x1).mono ?_
  rintro r wq ⟨rfl, e⟩
  rw [e]
  clear e wq
  rw [show leafB 8 = true from by decide +kernel]
  by_cases hl0 : l = []
  rotate_left
  · have hbx : 0 < l.length := List.length_pos_iff.2 hl0
    have HV : Hid (res = false) := by show _ = _; rw [← HRES.out]; simp [suchR, suchB, usesF, leafB, hl0]
    clear hl0
    go_wp2_with fail
    go_ret
    exact ⟨by rw [HV.out]; rfl, HG.out⟩
  subst hl0
  have HV : Hid (res = true) := by show _ = _; rw [← HRES.out]; simp [suchR, suchB, usesF, leafB, hu0, hs0]
  go_wp2_with fail
  go_loop [6] (fun i => i = .int .i64 0) (fun _ => 0)
  case atStart => exact rfl
  case round =>
    obtain rfl := hrel
    go_wp2_with fail
    go_ret
    exact ⟨by rw [HV.out]; rfl, HG.out⟩
set_option maxRecDepth 100000 in
set_option maxHeartbeats 4000000 in
theorem rsuch_9 (n u : Int) (s : ByteArray) (keys : List ByteArray) (l : List Tr) (v : Value) (w : World) (hn : NodeAt w (.mk 9 n u s keys l) v) : Calls Try.prog 72 #[v] w fun r w' => r = .returned (.bool (suchR (.mk 9 n u s keys l))) ∧ Grew w w' := by
  obtain ⟨hb, kv, lv, vs, rfl, hks, hrl, hkd⟩ := hn
  have hkl := hkd.length
  have HKD := Lib.hid hkd
  obtain ⟨a4, c4, rfl, hk1, hk2, hk3, _⟩ := hks
  have HRL := Lib.hid hrl
  obtain ⟨a5, c5, rfl, hl1, hl2, hl3, hl4⟩ := hrl
  rw [hkl] at HRL hl1 ⊢
  have hlen : l.length ≤ 9223372036854775807 := by unfold lenok at hl2; omega
  have hkeys : keys.length ≤ 9223372036854775807 := by unfold lenok at hk2; omega
  have hlc : (l.length : Int) ≤ c5 := by omega
  clear hb hk1 hk2 hk3 hl1 hl2 hl3 hl4 hkl hkd
  obtain ⟨res, hres⟩ : ∃ b, suchR (.mk 9 n u s keys l) = b := ⟨_, rfl⟩
  rw [hres]
  have HRES := Lib.hid hres
  clear hres
  have hrt := heap_alloc_new w (.cells #[.int .i64 9, .int .i64 n, .int .u64 u, .string s, .slice a4 keys.length c4, .slice a5 l.length c5] 26)
  have hga := (Grew.refl w).alloc (.cells #[.int .i64 9, .int .i64 n, .int .u64 u, .string s, .slice a4 keys.length c4, .slice a5 l.length c5] 26)
  go_enter Try.func72, Try.ntmps72
  go_upto_region 1 with fail
  obtain ⟨pr, hpr⟩ : ∃ N, w.heap.size = N := ⟨_, rfl⟩
  generalize (w.alloc (.cells #[.int .i64 9, .int .i64 n, .int .u64 u, .string s, .slice a4 keys.length c4, .slice a5 l.length c5] 26)) = x1 at *
  rw [hpr] at hrt ⊢
  have HRT := Lib.hid hrt
  have HG := Lib.hid hga
  clear hrt hga hpr
  have e0 := row_cellT HRT.out 0 _ rfl
  have e1 := row_cellT HRT.out 1 _ rfl
  have e2 := row_cellT HRT.out 2 _ rfl
  have e3 := row_cellT HRT.out 3 _ rfl
  have e4 := row_cellT HRT.out 4 _ rfl
  have e5 := row_cellT HRT.out 5 _ rfl
  by_cases hn0 : n = 0
  rotate_left
  · have hbx : (n != 0) = true := by simpa using hn0
    have HV : Hid (res = false) := by show _ = _; rw [← HRES.out]; simp [suchR, suchB, usesF, leafB, hn0]
    clear hn0
    go_wp2_with fail
    go_ret
    exact ⟨by rw [HV.out]; rfl, HG.out⟩
  have hbn : (n != 0) = false := by simpa using hn0
  by_cases hs0 : s.toList = []
  rotate_left
  · have hbx : ¬ s.toList = [] := hs0
    have HV : Hid (res = false) := by show _ = _; rw [← HRES.out]; simp [suchR, suchB, usesF, leafB, hs0]
    clear hs0
    go_wp2_with fail
    go_ret
    exact ⟨by rw [HV.out]; rfl, HG.out⟩
  by_cases hk0 : keys = []
  rotate_left
  · have hbx : 0 < keys.length := List.length_pos_iff.2 hk0
    have HV : Hid (res = false) := by show _ = _; rw [← HRES.out]; simp [suchR, suchB, usesF, leafB, hk0]
    clear hk0
    go_wp2_with fail
    go_ret
    exact ⟨by rw [HV.out]; rfl, HG.out⟩
  subst hk0
  go_wp2_with fail
  refine (rleaf_any 9 x1).mono ?_
  rintro r wq ⟨rfl, e⟩
  rw [e]
  clear e wq
  rw [show leafB 9 = true from by decide +kernel]
  by_cases hl0 : l = []
  rotate_left
  · have hbx : 0 < l.length := List.length_pos_iff.2 hl0
    have HV : Hid (res = false) := by show _ = _; rw [← HRES.out]; simp [suchR, suchB, usesF, leafB, hl0]
    clear hl0
    go_wp2_with fail
    go_ret
    exact ⟨by rw [HV.out]; rfl, HG.out⟩
  subst hl0
  have HV : Hid (res = true) := by show _ = _; rw [← HRES.out]; simp [suchR, suchB, usesF, leafB, hn0, hs0]
  go_wp2_with fail
  go_loop [6] (fun i => i = .int .i64 0) (fun _ => 0)
  case atStart => exact rfl
  case round =>
    obtain rfl := hrel
    go_wp2_with fail
    go_ret
    exact ⟨by rw [HV.out]; rfl, HG.out⟩
end Go.Proofs.Ytfbeepkogcmlmaa

/-
  Normal forms, the reference: such, part C. Conditions: the node lies in memory.
-/
namespace Go.Proofs.Ytfbeepkogcmlmaa
open Go Go.ChangeShapes Go.WideShapes Go.ChangeAt Go.RowKit Go.Joins Go.Deep
set_option linter.unusedVariables false
set_option linter.unusedSimpArgs false

set_option maxRecDepth 100000 in
set_option maxHeartbeats 4000000 in
theorem rsuch_10 (n u : Int) (s : ByteArray) (keys : List ByteArray) (l : List Tr) (v : Value) (w : World) (hn : NodeAt w (.mk 10 n u s keys l) v) : Calls Try.prog 72 #[v] w fun r w' => r = .returned (.bool (suchR (.mk 10 n u s keys l))) ∧ Grew w w' := by
  obtain ⟨hb, kv, lv, vs, rfl, hks, hrl, hkd⟩ := hn
  have hkl := hkd.length
  have HKD := Lib.hid hkd
  obtain ⟨a4, c4, rfl, hk1, hk2, hk3, _⟩ := hks
  have HRL := Lib.hid hrl
  obtain ⟨a5, c5, rfl, hl1, hl2, hl3, hl4⟩ := hrl
  rw [hkl] at HRL hl1 ⊢
  have hlen : l.length ≤ 9223372036854775807 := by unfold lenok at hl2; omega
  have hkeys : keys.length ≤ 9223372036854775807 := by unfold lenok at hk2; omega
  have hlc : (l.length : Int) ≤ c5 := by omega
  clear hb hk1 hk2 hk3 hl1 hl2 hl3 hl4 hkl hkd
  obtain ⟨res, hres⟩ : ∃ b, suchR (.mk 10 n u s keys l) = b := ⟨_, rfl⟩
  rw [hres]
  have HRES := Lib.hid hres
  clear hres
  have hrt := heap_alloc_new w (.cells #[.int .i64 10, .int .i64 n, .int .u64 u, .string s, .slice a4 keys.length c4, .slice a5 l.length c5] 26)
  have hga := (Grew.refl w).alloc (.cells #[.int .i64 10, .int .i64 n, .int .u64 u, .string s, .slice a4 keys.length c4, .slice a5 l.length c5] 26)
  go_enter Try.func72, Try.ntmps72
  go_upto_region 1 with fail
  obtain ⟨pr, hpr⟩ : ∃ N, w.heap.size = N := ⟨_, rfl⟩
  generalize (w.alloc (.cells #[.int .i64 10, .int .i64 n, .int .u64 u, .string s, .slice a4 keys.length c4, .slice a5 l.length c5] 26)) = x1 at *
  rw [hpr] at hrt ⊢
  have HRT := Lib.hid hrt
  have HG := Lib.hid hga
  clear hrt hga hpr
  have e0 := row_cellT HRT.out 0 _ rfl
  have e1 := row_cellT HRT.out 1 _ rfl
  have e2 := row_cellT HRT.out 2 _ rfl
  have e3 := row_cellT HRT.out 3 _ rfl
  have e4 := row_cellT HRT.out 4 _ rfl
  have e5 := row_cellT HRT.out 5 _ rfl
  by_cases hn0 : n = 0
  rotate_left
  · have hbx : (n != 0) = true := by simpa using hn0
    have HV : Hid (res = false) := by show _ = _; rw [← HRES.out]; simp [suchR, suchB, usesF, leafB, hn0]
    clear hn0
    go_wp2_with fail
    go_ret
    exact ⟨by rw [HV.out]; rfl, HG.out⟩
  have hbn : (n != 0) = false := by simpa using hn0
  by_cases hu0 : u = 0
  rotate_left
  · have hbx : (u != 0) = true := by simpa using hu0
    have HV : Hid (res = false) := by show _ = _; rw [← HRES.out]; simp [suchR, suchB, usesF, leafB, hu0]
    clear hu0
    go_wp2_with fail
    go_ret
    exact ⟨by rw [HV.out]; rfl, HG.out⟩
  have hbu : (u != 0) = false := by simpa using hu0
  by_cases hs0 : s.toList = []
  rotate_left
  · have hbx : ¬ s.toList = [] := hs0
    have HV : Hid (res = false) := by show _ = _; rw [← HRES.out]; simp [suchR, suchB, usesF, leafB, hs0]
    clear hs0
    go_wp2_with fail
    go_ret
    exact ⟨by rw [HV.out]; rfl, HG.out⟩
  by_cases hk0 : keys = []
  rotate_left
  · have hbx : 0 < keys.length := List.length_pos_iff.2 hk0
    have HV : Hid (res = false) := by show _ = _; rw [← HRES.out]; simp [suchR, suchB, usesF, leafB, hk0]
    clear hk0
    go_wp2_with fail
    go_ret
    exact ⟨by rw [HV.out]; rfl, HG.out⟩
  subst hk0
  go_wp2_with fail
  refine (rleaf_any 10 x1).mono ?_
  rintro r wq ⟨rfl, e⟩
  rw [e]
  clear e wq
  rw [show leafB 10 = false from by decide +kernel]
  have HRS : Hid (res = !(l.any (otherB 0))) := by show _ = _; rw [← HRES.out]; simp [suchR, suchB, usesF, leafB, partF, hn0, hu0, hs0]
  go_wp2_with fail
  go_loop [6] (fun i => ∃ kk : Nat, kk ≤ l.length ∧ i = .int .i64 kk ∧ Hid (l.any (otherB 0) = (l.drop kk).any (otherB 0))) (fun i => l.length - (intOf i).toNat)
  case atStart => exact ⟨0, Nat.zero_le _, rfl, by show _ = _; rw [List.drop_zero]⟩
  case round =>
    obtain ⟨kk, hkk, rfl, HL⟩ := hrel
    by_cases hlt : kk < l.length
    rotate_left
    · have ek : kk = l.length := by omega
      have HV : Hid (res = true) := by show _ = _; rw [HRS.out, HL.out, ek, List.drop_length]; rfl
      subst ek
      clear hlt
      go_wp2_with fail
      go_ret
      exact ⟨by rw [HV.out]; rfl, HG.out⟩
    obtain ⟨x, hx⟩ : ∃ x, l[kk]? = some x := ⟨_, List.getElem?_eq_getElem hlt⟩
    have HX := Lib.hid (any_drop (p := otherB 0) hx)
    have hlti : (kk : Int) < l.length := by omega
    have HO : Hid (otherB 0 x = false) := by show _ = _; rfl
    clear hx
    go_wp2_with fail
    refine (rpart_any 10 x1).mono ?_
    rintro r wq ⟨rfl, e⟩
    rw [e]
    clear e wq
    rw [show partF 10 = 0 from by decide +kernel]
    go_wp2_with fail
    go_round
    case rel => exact ⟨kk + 1, by omega, by go_num, by show _ = _; rw [HL.out, HX.out, HO.out]; rfl⟩
    case measure => simp [intOf]; omega
set_option maxRecDepth 100000 in
set_option maxHeartbeats 4000000 in
theorem rsuch_11 (n u : Int) (s : ByteArray) (keys : List ByteArray) (l : List Tr) (v : Value) (w : World) (hn : NodeAt w (.mk 11 n u s keys l) v) : Calls Try.prog 72 #[v] w fun r w' => r = .returned (.bool (suchR (.mk 11 n u s keys l))) ∧ Grew w w' := by
  obtain ⟨hb, kv, lv, vs, rfl, hks, hrl, hkd⟩ := hn
  have hkl := hkd.length
  have HKD := Lib.hid hkd
  obtain ⟨a4, c4, rfl, hk1, hk2, hk3, _⟩ := hks
  have HRL := Lib.hid hrl
  obtain ⟨a5, c5, rfl, hl1, hl2, hl3, hl4⟩ := hrl
  rw [hkl] at HRL hl1 ⊢
  have hlen : l.length ≤ 9223372036854775807 := by unfold lenok at hl2; omega
  have hkeys : keys.length ≤ 9223372036854775807 := by unfold lenok at hk2; omega
  have hlc : (l.length : Int) ≤ c5 := by omega
  clear hb hk1 hk2 hk3 hl1 hl2 hl3 hl4 hkl hkd
  obtain ⟨res, hres⟩ : ∃ b, suchR (.mk 11 n u s keys l) = b := ⟨_, rfl⟩
  rw [hres]
  have HRES := Lib.hid hres
  clear hres
  have hrt := heap_alloc_new w (.cells #[.int .i64 11, .int .i64 n, .int .u64 u, .string s, .slice a4 keys.length c4, .slice a5 l.length c5] 26)
  have hga := (Grew.refl w).alloc (.cells #[.int .i64 11, .int .i64 n, .int .u64 u, .string s, .slice a4 keys.length c4, .slice a5 l.length c5] 26)
  go_enter Try.func72, Try.ntmps72
  go_upto_region 1 with fail
  obtain ⟨pr, hpr⟩ : ∃ N, w.heap.size = N := ⟨_, rfl⟩
  generalize (w.alloc (.cells #[.int .i64 11, .int .i64 n, .int .u64 u, .string s, .slice a4 keys.length c4, .slice a5 l.length c5] 26)) = x1 at *
  rw [hpr] at hrt ⊢
  have HRT := Lib.hid hrt
  have HG := Lib.hid hga
  clear hrt hga hpr
  have e0 := row_cellT HRT.out 0 _ rfl
  have e1 := row_cellT HRT.out 1 _ rfl
  have e2 := row_cellT HRT.out 2 _ rfl
  have e3 := row_cellT HRT.out 3 _ rfl
  have e4 := row_cellT HRT.out 4 _ rfl
  have e5 := row_cellT HRT.out 5 _ rfl
  by_cases hn0 : n = 0
  rotate_left
  · have hbx : (n != 0) = true := by simpa using hn0
    have HV : Hid (res = false) := by show _ = _; rw [← HRES.out]; simp [suchR, suchB, usesF, leafB, hn0]
    clear hn0
    go_wp2_with fail
    go_ret
    exact ⟨by rw [HV.out]; rfl, HG.out⟩
  have hbn : (n != 0) = false := by simpa using hn0
  by_cases hu0 : u = 0
  rotate_left
  · have hbx : (u != 0) = true := by simpa using hu0
    have HV : Hid (res = false) := by show _ = _; rw [← HRES.out]; simp [suchR, suchB, usesF, leafB, hu0]
    clear hu0
    go_wp2_with fail
    go_ret
    exact ⟨by rw [HV.out]; rfl, HG.out⟩
  have hbu : (u != 0) = false := by simpa using hu0
  by_cases hs0 : s.toList = []
  rotate_left
  · have hbx : ¬ s.toList = [] := hs0
    have HV : Hid (res = false) := by show _ = _; rw [← HRES.out]; simp [suchR, suchB, usesF, leafB, hs0]
    clear hs0
    go_wp2_with fail
    go_ret
    exact ⟨by rw [HV.out]; rfl, HG.out⟩
  by_cases hk0 : keys = []
  rotate_left
  · have hbx : 0 < keys.length := List.length_pos_iff.2 hk0
    have HV : Hid (res = false) := by show _ = _; rw [← HRES.out]; simp [suchR, suchB, usesF, leafB, hk0]
    clear hk0
    go_wp2_with fail
    go_ret
    exact ⟨by rw [HV.out]; rfl, HG.out⟩
  subst hk0
  go_wp2_with fail
  refine (rleaf_any 11 x1).mono ?_
  rintro r wq ⟨rfl, e⟩
  rw [e]
  clear e wq
  rw [show leafB 11 = false from by decide +kernel]
  have HRS : Hid (res = !(l.any (otherB 3))) := by show _ = _; rw [← HRES.out]; simp [suchR, suchB, usesF, leafB, partF, hn0, hu0, hs0]
  go_wp2_with fail
  go_loop [6] (fun i => ∃ kk : Nat, kk ≤ l.length ∧ i = .int .i64 kk ∧ Hid (l.any (otherB 3) = (l.drop kk).any (otherB 3))) (fun i => l.length - (intOf i).toNat)
  case atStart => exact ⟨0, Nat.zero_le _, rfl, by show _ = _; rw [List.drop_zero]⟩
  case round =>
    obtain ⟨kk, hkk, rfl, HL⟩ := hrel
    by_cases hlt : kk < l.length
    rotate_left
    · have ek : kk = l.length := by omega
      have HV : Hid (res = true) := by show _ = _; rw [HRS.out, HL.out, ek, List.drop_length]; rfl
      subst ek
      clear hlt
      go_wp2_with fail
      go_ret
      exact ⟨by rw [HV.out]; rfl, HG.out⟩
    obtain ⟨x, hx⟩ : ∃ x, l[kk]? = some x := ⟨_, List.getElem?_eq_getElem hlt⟩
    have HX := Lib.hid (any_drop (p := otherB 3) hx)
    have hlti : (kk : Int) < l.length := by omega
    obtain ⟨xv, hxv, hnx⟩ := HKD.out.get hx
    obtain ⟨b, off, rfl, hc6⟩ : ∃ b off, a5 = some ⟨b, off, none⟩ ∧ Cells6 x1 b (off + kk * 6) xv := by
      obtain ⟨a, c, e, _, _, _, h⟩ := HRL.out
      injection e with e1 e2 e3
      subst e1
      obtain ⟨b, off, e, h6⟩ := h kk xv hxv
      exact ⟨b, off, e, h6.grew HG.out⟩
    obtain ⟨xk, xn, xu, xs, xa4, xn4, xc4, xa5, xn5, xc5, rfl⟩ := hnx.node6
    have HKX := Lib.hid (kind_cell hnx)
    obtain ⟨f0, f1, f2, f3, f4, f5⟩ := hc6.get
    clear hx hxv hnx hc6
    go_wp2_with fail
    refine (rpart_any 11 x1).mono ?_
    rintro r wq ⟨rfl, e⟩
    rw [e]
    clear e wq
    rw [show partF 11 = 3 from by decide +kernel]
    by_cases hk : xk = 3
    · have HO : Hid (otherB 3 x = false) := by show _ = _; unfold otherB; rw [← HKX.out, hk]; rfl
      have hbx : (xk != 3) = false := by simpa using hk
      clear hk
      go_wp2_with fail
      go_round
      case rel => exact ⟨kk + 1, by omega, by go_num, by show _ = _; rw [HL.out, HX.out, HO.out]; rfl⟩
      case measure => simp [intOf]; omega
    · have HO : Hid (otherB 3 x = true) := by show _ = _; unfold otherB; rw [← HKX.out]; simp [hk]
      have hbx : (xk != 3) = true := by simpa using hk
      have HV : Hid (res = false) := by show _ = _; rw [HRS.out, HL.out, HX.out, HO.out]; rfl
      clear hk
      go_wp2_with fail
      go_ret
      exact ⟨by rw [HV.out]; rfl, HG.out⟩
set_option maxRecDepth 100000 in
set_option maxHeartbeats 4000000 in
theorem rsuch_12 (n u : Int) (s : ByteArray) (keys : List ByteArray) (l : List Tr) (v : Value) (w : World) (hn : NodeAt w (.mk 12 n u s keys l) v) : Calls Try.prog 72 #[v] w fun r w' => r = .returned (.bool (suchR (.mk 12 n u s keys l))) ∧ Grew w w' := by
  obtain ⟨hb, kv, lv, vs, rfl, hks, hrl, hkd⟩ := hn
  have hkl := hkd.length
  have HKD := Lib.hid hkd
  obtain ⟨a4, c4, rfl, hk1, hk2, hk3, _⟩ := hks
  have HRL := Lib.hid hrl
  obtain ⟨a5, c5, rfl, hl1, hl2, hl3, hl4⟩ := hrl
  rw [hkl] at HRL hl1 ⊢
  have hlen : l.length ≤ 9223372036854775807 := by unfold lenok at hl2; omega
  have hkeys : keys.length ≤ 9223372036854775807 := by unfold lenok at hk2; omega
  have hlc : (l.length : Int) ≤ c5 := by omega
  clear hb hk1 hk2 hk3 hl1 hl2 hl3 hl4 hkl hkd
  obtain ⟨res, hres⟩ : ∃ b, suchR (.mk 12 n u s keys l) = b := ⟨_, rfl⟩
  rw [hres]
  have HRES := Lib.hid hres
  clear hres
  have hrt := heap_alloc_new w (.cells #[.int .i64 12, .int .i64 n, .int .u64 u, .string s, .slice a4 keys.length c4, .slice a5 l.length c5] 26)
  have hga := (Grew.refl w).alloc (.cells #[.int .i64 12, .int .i64 n, .int .u64 u, .string s, .slice a4 keys.length c4, .slice a5 l.length c5] 26)
  go_enter Try.func72, Try.ntmps72
  go_upto_region 1 with fail
  obtain ⟨pr, hpr⟩ : ∃ N, w.heap.size = N := ⟨_, rfl⟩
  generalize (w.alloc (.cells #[.int .i64 12, .int .i64 n, .int .u64 u, .string s, .slice a4 keys.length c4, .slice a5 l.length c5] 26)) = x1 at *
  rw [hpr] at hrt ⊢
  have HRT := Lib.hid hrt
  have HG := Lib.hid hga
  clear hrt hga hpr
  have e0 := row_cellT HRT.out 0 _ rfl
  have e1 := row_cellT HRT.out 1 _ rfl
  have e2 := row_cellT HRT.out 2 _ rfl
  have e3 := row_cellT HRT.out 3 _ rfl
  have e4 := row_cellT HRT.out 4 _ rfl
  have e5 := row_cellT HRT.out 5 _ rfl
  by_cases hn0 : n = 0
  rotate_left
  · have hbx : (n != 0) = true := by simpa using hn0
    have HV : Hid (res = false) := by show _ = _; rw [← HRES.out]; simp [suchR, suchB, usesF, leafB, hn0]
    clear hn0
    go_wp2_with fail
    go_ret
    exact ⟨by rw [HV.out]; rfl, HG.out⟩
  have hbn : (n != 0) = false := by simpa using hn0
  by_cases hu0 : u = 0
  rotate_left
  · have hbx : (u != 0) = true := by simpa using hu0
    have HV : Hid (res = false) := by show _ = _; rw [← HRES.out]; simp [suchR, suchB, usesF, leafB, hu0]
    clear hu0
    go_wp2_with fail
    go_ret
    exact ⟨by rw [HV.out]; rfl, HG.out⟩
  have hbu : (u != 0) = false := by simpa using hu0
  by_cases hs0 : s.toList = []
  rotate_left
  · have hbx : ¬ s.toList = [] := hs0
    have HV : Hid (res = false) := by show _ = _; rw [← HRES.out]; simp [suchR, suchB, usesF, leafB, hs0]
    clear hs0
    go_wp2_with fail
    go_ret
    exact ⟨by rw [HV.out]; rfl, HG.out⟩
  by_cases hk0 : keys = []
  rotate_left
  · have hbx : 0 < keys.length := List.length_pos_iff.2 hk0
    have HV : Hid (res = false) := by show _ = _; rw [← HRES.out]; simp [suchR, suchB, usesF, leafB, hk0]
    clear hk0
    go_wp2_with fail
    go_ret
    exact ⟨by rw [HV.out]; rfl, HG.out⟩
  subst hk0
  go_wp2_with fail
  refine (rleaf_any 12 x1).mono ?_
  rintro r wq ⟨rfl, e⟩
  rw [e]
  clear e wq
  rw [show leafB 12 = false from by decide +kernel]
  have HRS : Hid (res = !(l.any (otherB 4))) := by show _ = _; rw [← HRES.out]; simp [suchR, suchB, usesF, leafB, partF, hn0, hu0, hs0]
  go_wp2_with fail
  go_loop [6] (fun i => ∃ kk : Nat, kk ≤ l.length ∧ i = .int .i64 kk ∧ Hid (l.any (otherB 4) = (l.drop kk).any (otherB 4))) (fun i => l.length - (intOf i).toNat)
  case atStart => exact ⟨0, Nat.zero_le _, rfl, by show _ = _; rw [List.drop_zero]⟩
  case round =>
    obtain ⟨kk, hkk, rfl, HL⟩ := hrel
    by_cases hlt : kk < l.length
    rotate_left
    · have ek : kk = l.length := by omega
      have HV : Hid (res = true) := by show _ = _; rw [HRS.out, HL.out, ek, List.drop_length]; rfl
      subst ek
      clear hlt
      go_wp2_with fail
      go_ret
      exact ⟨by rw [HV.out]; rfl, HG.out⟩
    obtain ⟨x, hx⟩ : ∃ x, l[kk]? = some x := ⟨_, List.getElem?_eq_getElem hlt⟩
    have HX := Lib.hid (any_drop (p := otherB 4) hx)
    have hlti : (kk : Int) < l.length := by omega
    obtain ⟨xv, hxv, hnx⟩ := HKD.out.get hx
    obtain ⟨b, off, rfl, hc6⟩ : ∃ b off, a5 = some ⟨b, off, none⟩ ∧ Cells6 x1 b (off + kk * 6) xv := by
      obtain ⟨a, c, e, _, _, _, h⟩ := HRL.out
      injection e with e1 e2 e3
      subst e1
      obtain ⟨b, off, e, h6⟩ := h kk xv hxv
      exact ⟨b, off, e, h6.grew HG.out⟩
    obtain ⟨xk, xn, xu, xs, xa4, xn4, xc4, xa5, xn5, xc5, rfl⟩ := hnx.node6
    have HKX := Lib.hid (kind_cell hnx)
    obtain ⟨f0, f1, f2, f3, f4, f5⟩ := hc6.get
    clear hx hxv hnx hc6
    go_wp2_with fail
    refine (rpart_any 12 x1).mono ?_
    rintro r wq ⟨rfl, e⟩
    rw [e]
    clear e wq
    rw [show partF 12 = 4 from by decide +kernel]
    by_cases hk : xk = 4
    · have HO : Hid (otherB 4 x = false) := by show _ = _; unfold otherB; rw [← HKX.out, hk]; rfl
      have hbx : (xk != 4) = false := by simpa using hk
      clear hk
      go_wp2_with fail
      go_round
      case rel => exact ⟨kk + 1, by omega, by go_num, by show _ = _; rw [HL.out, HX.out, HO.out]; rfl⟩
      case measure => simp [intOf]; omega
    · have HO : Hid (otherB 4 x = true) := by show _ = _; unfold otherB; rw [← HKX.out]; simp [hk]
      have hbx : (xk != 4) = true := by simpa using hk
      have HV : Hid (res = false) := by show _ = _; rw [HRS.out, HL.out, HX.out, HO.out]; rfl
      clear hk
      go_wp2_with fail
      go_ret
      exact ⟨by rw [HV.out]; rfl, HG.out⟩
set_option maxRecDepth 100000 in
set_option maxHeartbeats 4000000 in
theorem rsuch_13 (n u : Int) (s : ByteArray) (keys : List ByteArray) (l : List Tr) (v : Value) (w : World) (hn : NodeAt w (.mk 13 n u s keys l) v) : Calls Try.prog 72 #[v] w fun r w' => r = .returned (.bool (suchR (.mk 13 n u s keys l))) ∧ Grew w w' := by
  obtain ⟨hb, kv, lv, vs, rfl, hks, hrl, hkd⟩ := hn
  have hkl := hkd.length
  have HKD := Lib.hid hkd
  obtain ⟨a4, c4, rfl, hk1, hk2, hk3, _⟩ := hks
  have HRL := Lib.hid hrl
  obtain ⟨a5, c5, rfl, hl1, hl2, hl3, hl4⟩ := hrl
  rw [hkl] at HRL hl1 ⊢
  have hlen : l.length ≤ 9223372036854775807 := by unfold lenok at hl2; omega
  have hkeys : keys.length ≤ 9223372036854775807 := by unfold lenok at hk2; omega
  have hlc : (l.length : Int) ≤ c5 := by omega
  clear hb hk1 hk2 hk3 hl1 hl2 hl3 hl4 hkl hkd
  obtain ⟨res, hres⟩ : ∃ b, suchR (.mk 13 n u s keys l) = b := ⟨_, rfl⟩
  rw [hres]
  have HRES := Lib.hid hres
  clear hres
  have hrt := heap_alloc_new w (.cells #[.int .i64 13, .int .i64 n, .int .u64 u, .string s, .slice a4 keys.length c4, .slice a5 l.length c5] 26)
  have hga := (Grew.refl w).alloc (.cells #[.int .i64 13, .int .i64 n, .int .u64 u, .string s, .slice a4 keys.length c4, .slice a5 l.length c5] 26)
  go_enter Try.func72, Try.ntmps72
  go_upto_region 1 with fail
  obtain ⟨pr, hpr⟩ : ∃ N, w.heap.size = N := ⟨_, rfl⟩
  generalize (w.alloc (.cells #[.int .i64 13, .int .i64 n, .int .u64 u, .string s, .slice a4 keys.length c4, .slice a5 l.length c5] 26)) = x1 at *
  rw [hpr] at hrt ⊢
  have HRT := Lib.hid hrt
  have HG := Lib.hid hga
  clear hrt hga hpr
  have e0 := row_cellT HRT.out 0 _ rfl
  have e1 := row_cellT HRT.out 1 _ rfl
  have e2 := row_cellT HRT.out 2 _ rfl
  have e3 := row_cellT HRT.out 3 _ rfl
  have e4 := row_cellT HRT.out 4 _ rfl
  have e5 := row_cellT HRT.out 5 _ rfl
  by_cases hn0 : n = 0
  rotate_left
  · have hbx : (n != 0) = true := by simpa using hn0
    have HV : Hid (res = false) := by show _ = _; rw [← HRES.out]; simp [suchR, suchB, usesF, leafB, hn0]
    clear hn0
    go_wp2_with fail
    go_ret
    exact ⟨by rw [HV.out]; rfl, HG.out⟩
  have hbn : (n != 0) = false := by simpa using hn0
  by_cases hu0 : u = 0
  rotate_left
  · have hbx : (u != 0) = true := by simpa using hu0
    have HV : Hid (res = false) := by show _ = _; rw [← HRES.out]; simp [suchR, suchB, usesF, leafB, hu0]
    clear hu0
    go_wp2_with fail
    go_ret
    exact ⟨by rw [HV.out]; rfl, HG.out⟩
  have hbu : (u != 0) = false := by simpa using hu0
  by_cases hs0 : s.toList = []
  rotate_left
  · have hbx : ¬ s.toList = [] := hs0
    have HV : Hid (res = false) := by show _ = _; rw [← HRES.out]; simp [suchR, suchB, usesF, leafB, hs0]
    clear hs0
    go_wp2_with fail
    go_ret
    exact ⟨by rw [HV.out]; rfl, HG.out⟩
  by_cases hk0 : keys = []
  rotate_left
  · have hbx : 0 < keys.length := List.length_pos_iff.2 hk0
    have HV : Hid (res = false) := by show _ = _; rw [← HRES.out]; simp [suchR, suchB, usesF, leafB, hk0]
    clear hk0
    go_wp2_with fail
    go_ret
    exact ⟨by rw [HV.out]; rfl, HG.out⟩
  subst hk0
  go_wp2_with fail
  refine (rleaf_any 13 x1).mono ?_
  rintro r wq ⟨rfl, e⟩
  rw [e]
  clear e wq
  rw [show leafB 13 = false from by decide +kernel]
  have HRS : Hid (res = !(l.any (otherB 5))) := by show _ = _; rw [← HRES.out]; simp [suchR, suchB, usesF, leafB, partF, hn0, hu0, hs0]
  go_wp2_with fail
  go_loop [6] (fun i => ∃ kk : Nat, kk ≤ l.length ∧ i = .int .i64 kk ∧ Hid (l.any (otherB 5) = (l.drop kk).any (otherB 5))) (fun i => l.length - (intOf i).toNat)
  case atStart => exact ⟨0, Nat.zero_le _, rfl, by show _ = _; rw [List.drop_zero]⟩
  case round =>
    obtain ⟨kk, hkk, rfl, HL⟩ := hrel
    by_cases hlt : kk < l.length
    rotate_left
    · have ek : kk = l.length := by omega
      have HV : Hid (res = true) := by show _ = _; rw [HRS.out, HL.out, ek, List.drop_length]; rfl
      subst ek
      clear hlt
      go_wp2_with fail
      go_ret
      exact ⟨by rw [HV.out]; rfl, HG.out⟩
    obtain ⟨x, hx⟩ : ∃ x, l[kk]? = some x := ⟨_, List.getElem?_eq_getElem hlt⟩
    have HX := Lib.hid (any_drop (p := otherB 5) hx)
    have hlti : (kk : Int) < l.length := by omega
    obtain ⟨xv, hxv, hnx⟩ := HKD.out.get hx
    obtain ⟨b, off, rfl, hc6⟩ : ∃ b off, a5 = some ⟨b, off, none⟩ ∧ Cells6 x1 b (off + kk * 6) xv := by
      obtain ⟨a, c, e, _, _, _, h⟩ := HRL.out
      injection e with e1 e2 e3
      subst e1
      obtain ⟨b, off, e, h6⟩ := h kk xv hxv
      exact ⟨b, off, e, h6.grew HG.out⟩
    obtain ⟨xk, xn, xu, xs, xa4, xn4, xc4, xa5, xn5, xc5, rfl⟩ := hnx.node6
    have HKX := Lib.hid (kind_cell hnx)
    obtain ⟨f0, f1, f2, f3, f4, f5⟩ := hc6.get
    clear hx hxv hnx hc6
    go_wp2_with fail
    refine (rpart_any 13 x1).mono ?_
    rintro r wq ⟨rfl, e⟩
    rw [e]
    clear e wq
    rw [show partF 13 = 5 from by decide +kernel]
    by_cases hk : xk = 5
    · have HO : Hid (otherB 5 x = false) := by show _ = _; unfold otherB; rw [← HKX.out, hk]; rfl
      have hbx : (xk != 5) = false := by simpa using hk
      clear hk
      go_wp2_with fail
      go_round
      case rel => exact ⟨kk + 1, by omega, by go_num, by show _ = _; rw [HL.out, HX.out, HO.out]; rfl⟩
      case measure => simp [intOf]; omega
    · have HO : Hid (otherB 5 x = true) := by show _ = _; unfold otherB; rw [← HKX.out]; simp [hk]
      have hbx : (xk != 5) = true := by simpa using hk
      have HV : Hid (res = false) := by show _ = _; rw [HRS.out, HL.out, HX.out, HO.out]; rfl
      clear hk
      go_wp2_with fail
      go_ret
      exact ⟨by rw [HV.out]; rfl, HG.out⟩
end Go.Proofs.Ytfbeepkogcmlmaa

/-
  Normal forms, the reference: such, part D. Conditions: the node lies in memory.
-/
namespace Go.Proofs.Ytfbeepkogcmlmaa
open Go Go.ChangeShapes Go.WideShapes Go.ChangeAt Go.RowKit Go.Joins Go.Deep
set_option linter.unusedVariables false
set_option linter.unusedSimpArgs false

set_option maxRecDepth 100000 in
set_option maxHeartbeats 4000000 in
theorem rsuch_14 (n u : Int) (s : ByteArray) (keys : List ByteArray) (l : List Tr) (v : Value) (w : World) (hn : NodeAt w (.mk 14 n u s keys l) v) : Calls Try.prog 72 #[v] w fun r w' => r = .returned (.bool (suchR (.mk 14 n u s keys l))) ∧ Grew w w' := by
  obtain ⟨hb, kv, lv, vs, rfl, hks, hrl, hkd⟩ := hn
  have hkl := hkd.length
  have HKD := Lib.hid hkd
  obtain ⟨a4, c4, rfl, hk1, hk2, hk3, _⟩ := hks
  have HRL := Lib.hid hrl
  obtain ⟨a5, c5, rfl, hl1, hl2, hl3, hl4⟩ := hrl
  rw [hkl] at HRL hl1 ⊢
  have hlen : l.length ≤ 9223372036854775807 := by unfold lenok at hl2; omega
  have hkeys : keys.length ≤ 9223372036854775807 := by unfold lenok at hk2; omega
  have hlc : (l.length : Int) ≤ c5 := by omega
  clear hb hk1 hk2 hk3 hl1 hl2 hl3 hl4 hkl hkd
  obtain ⟨res, hres⟩ : ∃ b, suchR (.mk 14 n u s keys l) = b := ⟨_, rfl⟩
  rw [hres]
  have HRES := Lib.hid hres
  clear hres
  have hrt := heap_alloc_new w (.cells #[.int .i64 14, .int .i64 n, .int .u64 u, .string s, .slice a4 keys.length c4, .slice a5 l.length c5] 26)
  have hga := (Grew.refl w).alloc (.cells #[.int .i64 14, .int .i64 n, .int .u64 u, .string s, .slice a4 keys.length c4, .slice a5 l.length c5] 26)
  go_enter Try.func72, Try.ntmps72
  go_upto_region 1 with fail
  obtain ⟨pr, hpr⟩ : ∃ N, w.heap.size = N := ⟨_, rfl⟩
  generalize (w.alloc (.cells #[.int .i64 14, .int .i64 n, .int .u64 u, .string s, .slice a4 keys.length c4, .slice a5 l.length c5] 26)) = x1 at *
  rw [hpr] at hrt ⊢
  have HRT := Lib.hid hrt
  have HG := Lib.hid hga
  clear hrt hga hpr
  have e0 := row_cellT HRT.out 0 _ rfl
  have e1 := row_cellT HRT.out 1 _ rfl
  have e2 := row_cellT HRT.out 2 _ rfl
  have e3 := row_cellT HRT.out 3 _ rfl
  have e4 := row_cellT HRT.out 4 _ rfl
  have e5 := row_cellT HRT.out 5 _ rfl
  by_cases hn0 : n = 0
  rotate_left
  · have hbx : (n != 0) = true := by simpa using hn0
    have HV : Hid (res = false) := by show _ = _; rw [← HRES.out]; simp [suchR, suchB, usesF, leafB, hn0]
    clear hn0
    go_wp2_with fail
    go_ret
    exact ⟨by rw [HV.out]; rfl, HG.out⟩
  have hbn : (n != 0) = false := by simpa using hn0
  by_cases hu0 : u = 0
  rotate_left
  · have hbx : (u != 0) = true := by simpa using hu0
    have HV : Hid (res = false) := by show _ = _; rw [← HRES.out]; simp [suchR, suchB, usesF, leafB, hu0]
    clear hu0
    go_wp2_with fail
    go_ret
    exact ⟨by rw [HV.out]; rfl, HG.out⟩
  have hbu : (u != 0) = false := by simpa using hu0
  by_cases hs0 : s.toList = []
  rotate_left
  · have hbx : ¬ s.toList = [] := hs0
    have HV : Hid (res = false) := by show _ = _; rw [← HRES.out]; simp [suchR, suchB, usesF, leafB, hs0]
    clear hs0
    go_wp2_with fail
    go_ret
    exact ⟨by rw [HV.out]; rfl, HG.out⟩
  by_cases hk0 : keys = []
  rotate_left
  · have hbx : 0 < keys.length := List.length_pos_iff.2 hk0
    have HV : Hid (res = false) := by show _ = _; rw [← HRES.out]; simp [suchR, suchB, usesF, leafB, hk0]
    clear hk0
    go_wp2_with fail
    go_ret
    exact ⟨by rw [HV.out]; rfl, HG.out⟩
  subst hk0
  go_wp2_with fail
  refine (rleaf_any 14 x1).mono ?_
  rintro r wq ⟨rfl, e⟩
  rw [e]
  clear e wq
  rw [show leafB 14 = false from by decide +kernel]
  have HRS : Hid (res = !(l.any (otherB 2))) := by show _ = _; rw [← HRES.out]; simp [suchR, suchB, usesF, leafB, partF, hn0, hu0, hs0]
  go_wp2_with fail
  go_loop [6] (fun i => ∃ kk : Nat, kk ≤ l.length ∧ i = .int .i64 kk ∧ Hid (l.any (otherB 2) = (l.drop kk).any (otherB 2))) (fun i => l.length - (intOf i).toNat)
  case atStart => exact ⟨0, Nat.zero_le _, rfl, by show _ = _; rw [List.drop_zero]⟩
  case round =>
    obtain ⟨kk, hkk, rfl, HL⟩ := hrel
    by_cases hlt : kk < l.length
    rotate_left
    · have ek : kk = l.length := by omega
      have HV : Hid (res = true) := by show _ = _; rw [HRS.out, HL.out, ek, List.drop_length]; rfl
      subst ek
      clear hlt
      go_wp2_with fail
      go_ret
      exact ⟨by rw [HV.out]; rfl, HG.out⟩
    obtain ⟨x, hx⟩ : ∃ x, l[kk]? = some x := ⟨_, List.getElem?_eq_getElem hlt⟩
    have HX := Lib.hid (any_drop (p := otherB 2) hx)
    have hlti : (kk : Int) < l.length := by omega
    obtain ⟨xv, hxv, hnx⟩ := HKD.out.get hx
    obtain ⟨b, off, rfl, hc6⟩ : ∃ b off, a5 = some ⟨b, off, none⟩ ∧ Cells6 x1 b (off + kk * 6) xv := by
      obtain ⟨a, c, e, _, _, _, h⟩ := HRL.out
      injection e with e1 e2 e3
      subst e1
      obtain ⟨b, off, e, h6⟩ := h kk xv hxv
      exact ⟨b, off, e, h6.grew HG.out⟩
    obtain ⟨xk, xn, xu, xs, xa4, xn4, xc4, xa5, xn5, xc5, rfl⟩ := hnx.node6
    have HKX := Lib.hid (kind_cell hnx)
    obtain ⟨f0, f1, f2, f3, f4, f5⟩ := hc6.get
    clear hx hxv hnx hc6
    go_wp2_with fail
    refine (rpart_any 14 x1).mono ?_
    rintro r wq ⟨rfl, e⟩
    rw [e]
    clear e wq
    rw [show partF 14 = 2 from by decide +kernel]
    by_cases hk : xk = 2
    · have HO : Hid (otherB 2 x = false) := by show _ = _; unfold otherB; rw [← HKX.out, hk]; rfl
      have hbx : (xk != 2) = false := by simpa using hk
      clear hk
      go_wp2_with fail
      go_round
      case rel => exact ⟨kk + 1, by omega, by go_num, by show _ = _; rw [HL.out, HX.out, HO.out]; rfl⟩
      case measure => simp [intOf]; omega
    · have HO : Hid (otherB 2 x = true) := by show _ = _; unfold otherB; rw [← HKX.out]; simp [hk]
      have hbx : (xk != 2) = true := by simpa using hk
      have HV : Hid (res = false) := by show _ = _; rw [HRS.out, HL.out, HX.out, HO.out]; rfl
      clear hk
      go_wp2_with fail
      go_ret
      exact ⟨by rw [HV.out]; rfl, HG.out⟩
set_option maxRecDepth 100000 in
set_option maxHeartbeats 4000000 in
theorem rsuch_15 (n u : Int) (s : ByteArray) (keys : List ByteArray) (l : List Tr) (v : Value) (w : World) (hn : NodeAt w (.mk 15 n u s keys l) v) : Calls Try.prog 72 #[v] w fun r w' => r = .returned (.bool (suchR (.mk 15 n u s keys l))) ∧ Grew w w' := by
  obtain ⟨hb, kv, lv, vs, rfl, hks, hrl, hkd⟩ := hn
  have hkl := hkd.length
  have HKD := Lib.hid hkd
  obtain ⟨a4, c4, rfl, hk1, hk2, hk3, _⟩ := hks
  have HRL := Lib.hid hrl
  obtain ⟨a5, c5, rfl, hl1, hl2, hl3, hl4⟩ := hrl
  rw [hkl] at HRL hl1 ⊢
  have hlen : l.length ≤ 9223372036854775807 := by unfold lenok at hl2; omega
  have hkeys : keys.length ≤ 9223372036854775807 := by unfold lenok at hk2; omega
  have hlc : (l.length : Int) ≤ c5 := by omega
  clear hb hk1 hk2 hk3 hl1 hl2 hl3 hl4 hkl hkd
  obtain ⟨res, hres⟩ : ∃ b, suchR (.mk 15 n u s keys l) = b := ⟨_, rfl⟩
  rw [hres]
  have HRES := Lib.hid hres
  clear hres
  have hrt := heap_alloc_new w (.cells #[.int .i64 15, .int .i64 n, .int .u64 u, .string s, .slice a4 keys.length c4, .slice a5 l.length c5] 26)
  have hga := (Grew.refl w).alloc (.cells #[.int .i64 15, .int .i64 n, .int .u64 u, .string s, .slice a4 keys.length c4, .slice a5 l.length c5] 26)
  go_enter Try.func72, Try.ntmps72
  go_upto_region 1 with fail
  obtain ⟨pr, hpr⟩ : ∃ N, w.heap.size = N := ⟨_, rfl⟩
  generalize (w.alloc (.cells #[.int .i64 15, .int .i64 n, .int .u64 u, .string s, .slice a4 keys.length c4, .slice a5 l.length c5] 26)) = x1 at *
  rw [hpr] at hrt ⊢
  have HRT := Lib.hid hrt
  have HG := Lib.hid hga
  clear hrt hga hpr
  have e0 := row_cellT HRT.out 0 _ rfl
  have e1 := row_cellT HRT.out 1 _ rfl
  have e2 := row_cellT HRT.out 2 _ rfl
  have e3 := row_cellT HRT.out 3 _ rfl
  have e4 := row_cellT HRT.out 4 _ rfl
  have e5 := row_cellT HRT.out 5 _ rfl
  by_cases hn0 : n = 0
  rotate_left
  · have hbx : (n != 0) = true := by simpa using hn0
    have HV : Hid (res = false) := by show _ = _; rw [← HRES.out]; simp [suchR, suchB, usesF, leafB, hn0]
    clear hn0
    go_wp2_with fail
    go_ret
    exact ⟨by rw [HV.out]; rfl, HG.out⟩
  have hbn : (n != 0) = false := by simpa using hn0
  by_cases hu0 : u = 0
  rotate_left
  · have hbx : (u != 0) = true := by simpa using hu0
    have HV : Hid (res = false) := by show _ = _; rw [← HRES.out]; simp [suchR, suchB, usesF, leafB, hu0]
    clear hu0
    go_wp2_with fail
    go_ret
    exact ⟨by rw [HV.out]; rfl, HG.out⟩
  have hbu : (u != 0) = false := by simpa using hu0
  by_cases hs0 : s.toList = []
  rotate_left
  · have hbx : ¬ s.toList = [] := hs0
    have HV : Hid (res = false) := by show _ = _; rw [← HRES.out]; simp [suchR, suchB, usesF, leafB, hs0]
    clear hs0
    go_wp2_with fail
    go_ret
    exact ⟨by rw [HV.out]; rfl, HG.out⟩
  by_cases hk0 : keys = []
  rotate_left
  · have hbx : 0 < keys.length := List.length_pos_iff.2 hk0
    have HV : Hid (res = false) := by show _ = _; rw [← HRES.out]; simp [suchR, suchB, usesF, leafB, hk0]
    clear hk0
    go_wp2_with fail
    go_ret
    exact ⟨by rw [HV.out]; rfl, HG.out⟩
  subst hk0
  go_wp2_with fail
  refine (rleaf_any 15 x1).mono ?_
  rintro r wq ⟨rfl, e⟩
  rw [e]
  clear e wq
  rw [show leafB 15 = false from by decide +kernel]
  by_cases h2 : 2 ≤ l.length
  rotate_left
  · have hbx : (l.length : Int) < 2 := by omega
    have HV : Hid (res = false) := by show _ = _; rw [← HRES.out]; simp [suchR, suchB, usesF, leafB, h2]
    clear h2
    go_wp2_with fail
    go_ret
    exact ⟨by rw [HV.out]; rfl, HG.out⟩
  by_cases h4 : l.length ≤ 4
  rotate_left
  · have hbx : (4 : Int) < l.length := by omega
    have HV : Hid (res = false) := by show _ = _; rw [← HRES.out]; simp [suchR, suchB, usesF, leafB, h4]
    clear h4
    go_wp2_with fail
    go_ret
    exact ⟨by rw [HV.out]; rfl, HG.out⟩
  have HRS : Hid (res = !(l.any (otherB 3))) := by show _ = _; rw [← HRES.out]; simp [suchR, suchB, usesF, leafB, partF, hn0, hu0, hs0, h2, h4]
  go_wp2_with fail
  go_loop [6] (fun i => ∃ kk : Nat, kk ≤ l.length ∧ i = .int .i64 kk ∧ Hid (l.any (otherB 3) = (l.drop kk).any (otherB 3))) (fun i => l.length - (intOf i).toNat)
  case atStart => exact ⟨0, Nat.zero_le _, rfl, by show _ = _; rw [List.drop_zero]⟩
  case round =>
    obtain ⟨kk, hkk, rfl, HL⟩ := hrel
    by_cases hlt : kk < l.length
    rotate_left
    · have ek : kk = l.length := by omega
      have HV : Hid (res = true) := by show _ = _; rw [HRS.out, HL.out, ek, List.drop_length]; rfl
      subst ek
      clear hlt
      go_wp2_with fail
      go_ret
      exact ⟨by rw [HV.out]; rfl, HG.out⟩
    obtain ⟨x, hx⟩ : ∃ x, l[kk]? = some x := ⟨_, List.getElem?_eq_getElem hlt⟩
    have HX := Lib.hid (any_drop (p := otherB 3) hx)
    have hlti : (kk : Int) < l.length := by omega
    obtain ⟨xv, hxv, hnx⟩ := HKD.out.get hx
    obtain ⟨b, off, rfl, hc6⟩ : ∃ b off, a5 = some ⟨b, off, none⟩ ∧ Cells6 x1 b (off + kk * 6) xv := by
      obtain ⟨a, c, e, _, _, _, h⟩ := HRL.out
      injection e with e1 e2 e3
      subst e1
      obtain ⟨b, off, e, h6⟩ := h kk xv hxv
      exact ⟨b, off, e, h6.grew HG.out⟩
    obtain ⟨xk, xn, xu, xs, xa4, xn4, xc4, xa5, xn5, xc5, rfl⟩ := hnx.node6
    have HKX := Lib.hid (kind_cell hnx)
    obtain ⟨f0, f1, f2, f3, f4, f5⟩ := hc6.get
    clear hx hxv hnx hc6
    go_wp2_with fail
    refine (rpart_any 15 x1).mono ?_
    rintro r wq ⟨rfl, e⟩
    rw [e]
    clear e wq
    rw [show partF 15 = 3 from by decide +kernel]
    by_cases hk : xk = 3
    · have HO : Hid (otherB 3 x = false) := by show _ = _; unfold otherB; rw [← HKX.out, hk]; rfl
      have hbx : (xk != 3) = false := by simpa using hk
      clear hk
      go_wp2_with fail
      go_round
      case rel => exact ⟨kk + 1, by omega, by go_num, by show _ = _; rw [HL.out, HX.out, HO.out]; rfl⟩
      case measure => simp [intOf]; omega
    · have HO : Hid (otherB 3 x = true) := by show _ = _; unfold otherB; rw [← HKX.out]; simp [hk]
      have hbx : (xk != 3) = true := by simpa using hk
      have HV : Hid (res = false) := by show _ = _; rw [HRS.out, HL.out, HX.out, HO.out]; rfl
      clear hk
      go_wp2_with fail
      go_ret
      exact ⟨by rw [HV.out]; rfl, HG.out⟩
set_option maxRecDepth 100000 in
set_option maxHeartbeats 4000000 in
theorem rsuch_16 (n u : Int) (s : ByteArray) (keys : List ByteArray) (l : List Tr) (v : Value) (w : World) (hn : NodeAt w (.mk 16 n u s keys l) v) : Calls Try.prog 72 #[v] w fun r w' => r = .returned (.bool (suchR (.mk 16 n u s keys l))) ∧ Grew w w' := by
  obtain ⟨hb, kv, lv, vs, rfl, hks, hrl, hkd⟩ := hn
  have hkl := hkd.length
  have HKD := Lib.hid hkd
  obtain ⟨a4, c4, rfl, hk1, hk2, hk3, _⟩ := hks
  have HRL := Lib.hid hrl
  obtain ⟨a5, c5, rfl, hl1, hl2, hl3, hl4⟩ := hrl
  rw [hkl] at HRL hl1 ⊢
  have hlen : l.length ≤ 9223372036854775807 := by unfold lenok at hl2; omega
  have hkeys : keys.length ≤ 9223372036854775807 := by unfold lenok at hk2; omega
  have hlc : (l.length : Int) ≤ c5 := by omega
  clear hb hk1 hk2 hk3 hl1 hl2 hl3 hl4 hkl hkd
  obtain ⟨res, hres⟩ : ∃ b, suchR (.mk 16 n u s keys l) = b := ⟨_, rfl⟩
  rw [hres]
  have HRES := Lib.hid hres
  clear hres
  have hrt := heap_alloc_new w (.cells #[.int .i64 16, .int .i64 n, .int .u64 u, .string s, .slice a4 keys.length c4, .slice a5 l.length c5] 26)
  have hga := (Grew.refl w).alloc (.cells #[.int .i64 16, .int .i64 n, .int .u64 u, .string s, .slice a4 keys.length c4, .slice a5 l.length c5] 26)
  go_enter Try.func72, Try.ntmps72
  go_upto_region 1 with fail
  obtain ⟨pr, hpr⟩ : ∃ N, w.heap.size = N := ⟨_, rfl⟩
  generalize (w.alloc (.cells #[.int .i64 16, .int .i64 n, .int .u64 u, .string s, .slice a4 keys.length c4, .slice a5 l.length c5] 26)) = x1 at *
  rw [hpr] at hrt ⊢
  have HRT := Lib.hid hrt
  have HG := Lib.hid hga
  clear hrt hga hpr
  have e0 := row_cellT HRT.out 0 _ rfl
  have e1 := row_cellT HRT.out 1 _ rfl
  have e2 := row_cellT HRT.out 2 _ rfl
  have e3 := row_cellT HRT.out 3 _ rfl
  have e4 := row_cellT HRT.out 4 _ rfl
  have e5 := row_cellT HRT.out 5 _ rfl
  by_cases hn0 : n = 0
  rotate_left
  · have hbx : (n != 0) = true := by simpa using hn0
    have HV : Hid (res = false) := by show _ = _; rw [← HRES.out]; simp [suchR, suchB, usesF, leafB, hn0]
    clear hn0
    go_wp2_with fail
    go_ret
    exact ⟨by rw [HV.out]; rfl, HG.out⟩
  have hbn : (n != 0) = false := by simpa using hn0
  by_cases hu0 : u = 0
  rotate_left
  · have hbx : (u != 0) = true := by simpa using hu0
    have HV : Hid (res = false) := by show _ = _; rw [← HRES.out]; simp [suchR, suchB, usesF, leafB, hu0]
    clear hu0
    go_wp2_with fail
    go_ret
    exact ⟨by rw [HV.out]; rfl, HG.out⟩
  have hbu : (u != 0) = false := by simpa using hu0
  by_cases hs0 : s.toList = []
  rotate_left
  · have hbx : ¬ s.toList = [] := hs0
    have HV : Hid (res = false) := by show _ = _; rw [← HRES.out]; simp [suchR, suchB, usesF, leafB, hs0]
    clear hs0
    go_wp2_with fail
    go_ret
    exact ⟨by rw [HV.out]; rfl, HG.out⟩
  by_cases hk0 : keys = []
  rotate_left
  · have hbx : 0 < keys.length := List.length_pos_iff.2 hk0
    have HV : Hid (res = false) := by show _ = _; rw [← HRES.out]; simp [suchR, suchB, usesF, leafB, hk0]
    clear hk0
    go_wp2_with fail
    go_ret
    exact ⟨by rw [HV.out]; rfl, HG.out⟩
  subst hk0
  go_wp2_with fail
  refine (rleaf_any 16 x1).mono ?_
  rintro r wq ⟨rfl, e⟩
  rw [e]
  clear e wq
  rw [show leafB 16 = false from by decide +kernel]
  by_cases h2 : 2 ≤ l.length
  rotate_left
  · have hbx : (l.length : Int) < 2 := by omega
    have HV : Hid (res = false) := by show _ = _; rw [← HRES.out]; simp [suchR, suchB, usesF, leafB, h2]
    clear h2
    go_wp2_with fail
    go_ret
    exact ⟨by rw [HV.out]; rfl, HG.out⟩
  by_cases h4 : l.length ≤ 4
  rotate_left
  · have hbx : (4 : Int) < l.length := by omega
    have HV : Hid (res = false) := by show _ = _; rw [← HRES.out]; simp [suchR, suchB, usesF, leafB, h4]
    clear h4
    go_wp2_with fail
    go_ret
    exact ⟨by rw [HV.out]; rfl, HG.out⟩
  have HRS : Hid (res = !(l.any (otherB 4))) := by show _ = _; rw [← HRES.out]; simp [suchR, suchB, usesF, leafB, partF, hn0, hu0, hs0, h2, h4]
  go_wp2_with fail
  go_loop [6] (fun i => ∃ kk : Nat, kk ≤ l.length ∧ i = .int .i64 kk ∧ Hid (l.any (otherB 4) = (l.drop kk).any (otherB 4))) (fun i => l.length - (intOf i).toNat)
  case atStart => exact ⟨0, Nat.zero_le _, rfl, by show _ = _; rw [List.drop_zero]⟩
  case round =>
    obtain ⟨kk, hkk, rfl, HL⟩ := hrel
    by_cases hlt : kk < l.length
    rotate_left
    · have ek : kk = l.length := by omega
      have HV : Hid (res = true) := by show _ = _; rw [HRS.out, HL.out, ek, List.drop_length]; rfl
      subst ek
      clear hlt
      go_wp2_with fail
      go_ret
      exact ⟨by rw [HV.out]; rfl, HG.out⟩
    obtain ⟨x, hx⟩ : ∃ x, l[kk]? = some x := ⟨_, List.getElem?_eq_getElem hlt⟩
    have HX := Lib.hid (any_drop (p := otherB 4) hx)
    have hlti : (kk : Int) < l.length := by omega
    obtain ⟨xv, hxv, hnx⟩ := HKD.out.get hx
    obtain ⟨b, off, rfl, hc6⟩ : ∃ b off, a5 = some ⟨b, off, none⟩ ∧ Cells6 x1 b (off + kk * 6) xv := by
      obtain ⟨a, c, e, _, _, _, h⟩ := HRL.out
      injection e with e1 e2 e3
      subst e1
      obtain ⟨b, off, e, h6⟩ := h kk xv hxv
      exact ⟨b, off, e, h6.grew HG.out⟩
    obtain ⟨xk, xn, xu, xs, xa4, xn4, xc4, xa5, xn5, xc5, rfl⟩ := hnx.node6
    have HKX := Lib.hid (kind_cell hnx)
    obtain ⟨f0, f1, f2, f3, f4, f5⟩ := hc6.get
    clear hx hxv hnx hc6
    go_wp2_with fail
    refine (rpart_any 16 x1).mono ?_
    rintro r wq ⟨rfl, e⟩
    rw [e]
    clear e wq
    rw [show partF 16 = 4 from by decide +kernel]
    by_cases hk : xk = 4
    · have HO : Hid (otherB 4 x = false) := by show _ = _; unfold otherB; rw [← HKX.out, hk]; rfl
      have hbx : (xk != 4) = false := by simpa using hk
      clear hk
      go_wp2_with fail
      go_round
      case rel => exact ⟨kk + 1, by omega, by go_num, by show _ = _; rw [HL.out, HX.out, HO.out]; rfl⟩
      case measure => simp [intOf]; omega
    · have HO : Hid (otherB 4 x = true) := by show _ = _; unfold otherB; rw [← HKX.out]; simp [hk]
      have hbx : (xk != 4) = true := by simpa using hk
      have HV : Hid (res = false) := by show _ = _; rw [HRS.out, HL.out, HX.out, HO.out]; rfl
      clear hk
      go_wp2_with fail
      go_ret
      exact ⟨by rw [HV.out]; rfl, HG.out⟩
set_option maxRecDepth 100000 in
set_option maxHeartbeats 4000000 in
theorem rsuch_17 (n u : Int) (s : ByteArray) (keys : List ByteArray) (l : List Tr) (v : Value) (w : World) (hn : NodeAt w (.mk 17 n u s keys l) v) : Calls Try.prog 72 #[v] w fun r w' => r = .returned (.bool (suchR (.mk 17 n u s keys l))) ∧ Grew w w' := by
  obtain ⟨hb, kv, lv, vs, rfl, hks, hrl, hkd⟩ := hn
  have hkl := hkd.length
  have HKD := Lib.hid hkd
  obtain ⟨a4, c4, rfl, hk1, hk2, hk3, _⟩ := hks
  have HRL := Lib.hid hrl
  obtain ⟨a5, c5, rfl, hl1, hl2, hl3, hl4⟩ := hrl
  rw [hkl] at HRL hl1 ⊢
  have hlen : l.length ≤ 9223372036854775807 := by unfold lenok at hl2; omega
  have hkeys : keys.length ≤ 9223372036854775807 := by unfold lenok at hk2; omega
  have hlc : (l.length : Int) ≤ c5 := by omega
  clear hb hk1 hk2 hk3 hl1 hl2 hl3 hl4 hkl hkd
  obtain ⟨res, hres⟩ : ∃ b, suchR (.mk 17 n u s keys l) = b := ⟨_, rfl⟩
  rw [hres]
  have HRES := Lib.hid hres
  clear hres
  have hrt := heap_alloc_new w (.cells #[.int .i64 17, .int .i64 n, .int .u64 u, .string s, .slice a4 keys.length c4, .slice a5 l.length c5] 26)
  have hga := (Grew.refl w).alloc (.cells #[.int .i64 17, .int .i64 n, .int .u64 u, .string s, .slice a4 keys.length c4, .slice a5 l.length c5] 26)
  go_enter Try.func72, Try.ntmps72
  go_upto_region 1 with fail
  obtain ⟨pr, hpr⟩ : ∃ N, w.heap.size = N := ⟨_, rfl⟩
  generalize (w.alloc (.cells #[.int .i64 17, .int .i64 n, .int .u64 u, .string s, .slice a4 keys.length c4, .slice a5 l.length c5] 26)) = x1 at *
  rw [hpr] at hrt ⊢
  have HRT := Lib.hid hrt
  have HG := Lib.hid hga
  clear hrt hga hpr
  have e0 := row_cellT HRT.out 0 _ rfl
  have e1 := row_cellT HRT.out 1 _ rfl
  have e2 := row_cellT HRT.out 2 _ rfl
  have e3 := row_cellT HRT.out 3 _ rfl
  have e4 := row_cellT HRT.out 4 _ rfl
  have e5 := row_cellT HRT.out 5 _ rfl
  by_cases hn0 : n = 0
  rotate_left
  · have hbx : (n != 0) = true := by simpa using hn0
    have HV : Hid (res = false) := by show _ = _; rw [← HRES.out]; simp [suchR, suchB, usesF, leafB, hn0]
    clear hn0
    go_wp2_with fail
    go_ret
    exact ⟨by rw [HV.out]; rfl, HG.out⟩
  have hbn : (n != 0) = false := by simpa using hn0
  by_cases hu0 : u = 0
  rotate_left
  · have hbx : (u != 0) = true := by simpa using hu0
    have HV : Hid (res = false) := by show _ = _; rw [← HRES.out]; simp [suchR, suchB, usesF, leafB, hu0]
    clear hu0
    go_wp2_with fail
    go_ret
    exact ⟨by rw [HV.out]; rfl, HG.out⟩
  have hbu : (u != 0) = false := by simpa using hu0
  by_cases hs0 : s.toList = []
  rotate_left
  · have hbx : ¬ s.toList = [] := hs0
    have HV : Hid (res = false) := by show _ = _; rw [← HRES.out]; simp [suchR, suchB, usesF, leafB, hs0]
    clear hs0
    go_wp2_with fail
    go_ret
    exact ⟨by rw [HV.out]; rfl, HG.out⟩
  go_wp2_with fail
  refine (rleaf_any 17 x1).mono ?_
  rintro r wq ⟨rfl, e⟩
  rw [e]
  clear e wq
  rw [show leafB 17 = false from by decide +kernel]
  by_cases hk0 : keys.length = l.length
  rotate_left
  · have hbx : ((keys.length : Int) != (l.length : Int)) = true := by simp; omega
    have HV : Hid (res = false) := by show _ = _; rw [← HRES.out]; simp [suchR, suchB, usesF, leafB, hk0]
    clear hk0
    go_wp2_with fail
    go_ret
    exact ⟨by rw [HV.out]; rfl, HG.out⟩
  have hbk : ((keys.length : Int) != (l.length : Int)) = false := by simp; omega
  have HRS : Hid (res = !(l.any (otherB 0))) := by show _ = _; rw [← HRES.out]; simp [suchR, suchB, usesF, leafB, partF, hn0, hu0, hs0, hk0]
  go_wp2_with fail
  go_loop [6] (fun i => ∃ kk : Nat, kk ≤ l.length ∧ i = .int .i64 kk ∧ Hid (l.any (otherB 0) = (l.drop kk).any (otherB 0))) (fun i => l.length - (intOf i).toNat)
  case atStart => exact ⟨0, Nat.zero_le _, rfl, by show _ = _; rw [List.drop_zero]⟩
  case round =>
    obtain ⟨kk, hkk, rfl, HL⟩ := hrel
    by_cases hlt : kk < l.length
    rotate_left
    · have ek : kk = l.length := by omega
      have HV : Hid (res = true) := by show _ = _; rw [HRS.out, HL.out, ek, List.drop_length]; rfl
      subst ek
      clear hlt
      go_wp2_with fail
      go_ret
      exact ⟨by rw [HV.out]; rfl, HG.out⟩
    obtain ⟨x, hx⟩ : ∃ x, l[kk]? = some x := ⟨_, List.getElem?_eq_getElem hlt⟩
    have HX := Lib.hid (any_drop (p := otherB 0) hx)
    have hlti : (kk : Int) < l.length := by omega
    have HO : Hid (otherB 0 x = false) := by show _ = _; rfl
    clear hx
    go_wp2_with fail
    refine (rpart_any 17 x1).mono ?_
    rintro r wq ⟨rfl, e⟩
    rw [e]
    clear e wq
    rw [show partF 17 = 0 from by decide +kernel]
    go_wp2_with fail
    go_round
    case rel => exact ⟨kk + 1, by omega, by go_num, by show _ = _; rw [HL.out, HX.out, HO.out]; rfl⟩
    case measure => simp [intOf]; omega
end Go.Proofs.Ytfbeepkogcmlmaa

/-
  Normal forms, the reference: such. Conditions: the node lies in memory.
-/
namespace Go.Proofs.Ytfbeepkogcmlmaa
open Go Go.ChangeShapes Go.WideShapes Go.ChangeAt Go.RowKit Go.Joins Go.Deep
set_option linter.unusedVariables false
set_option linter.unusedSimpArgs false

set_option maxRecDepth 100000 in
set_option maxHeartbeats 4000000 in
theorem rsuch_any (t : Tr) (v : Value) (w : World) (hn : NodeAt w t v) : Calls Try.prog 72 #[v] w fun r w' => r = .returned (.bool (suchR t)) ∧ Grew w w' := by
  obtain ⟨k, n, u, s, keys, l⟩ := t
  by_cases h1 : 1 ≤ k
  rotate_left
  · have HV : Hid (suchR (.mk k n u s keys l) = false) := by show _ = _; simp [suchR, suchB, h1]
    rw [HV.out]
    have hkk : k < 1 := by omega
    clear h1
    obtain ⟨hb, kv, lv, vs, rfl, hks, hrl, hkd⟩ := hn
    obtain ⟨a4, c4, rfl, _⟩ := hks
    obtain ⟨a5, c5, rfl, _⟩ := hrl
    go_enter Try.func72, Try.ntmps72
    go_wp2_with fail
    go_ret
    exact ⟨rfl, (Grew.refl w).alloc _⟩
  by_cases h2 : k ≤ 17
  rotate_left
  · have HV : Hid (suchR (.mk k n u s keys l) = false) := by show _ = _; simp [suchR, suchB, h2]
    rw [HV.out]
    have hkk : 17 < k := by omega
    clear h2
    obtain ⟨hb, kv, lv, vs, rfl, hks, hrl, hkd⟩ := hn
    obtain ⟨a4, c4, rfl, _⟩ := hks
    obtain ⟨a5, c5, rfl, _⟩ := hrl
    go_enter Try.func72, Try.ntmps72
    go_wp2_with fail
    go_ret
    exact ⟨rfl, (Grew.refl w).alloc _⟩
  rcases kinds k h1 h2 with rfl | rfl | rfl | rfl | rfl | rfl | rfl | rfl | rfl | rfl | rfl | rfl | rfl | rfl | rfl | rfl | rfl
  · exact rsuch_1 n u s keys l v w hn
  · exact rsuch_2 n u s keys l v w hn
  · exact rsuch_3 n u s keys l v w hn
  · exact rsuch_4 n u s keys l v w hn
  · exact rsuch_5 n u s keys l v w hn
  · exact rsuch_6 n u s keys l v w hn
  · exact rsuch_7 n u s keys l v w hn
  · exact rsuch_8 n u s keys l v w hn
  · exact rsuch_9 n u s keys l v w hn
  · exact rsuch_10 n u s keys l v w hn
  · exact rsuch_11 n u s keys l v w hn
  · exact rsuch_12 n u s keys l v w hn
  · exact rsuch_13 n u s keys l v w hn
  · exact rsuch_14 n u s keys l v w hn
  · exact rsuch_15 n u s keys l v w hn
  · exact rsuch_16 n u s keys l v w hn
  · exact rsuch_17 n u s keys l v w hn
end Go.Proofs.Ytfbeepkogcmlmaa
