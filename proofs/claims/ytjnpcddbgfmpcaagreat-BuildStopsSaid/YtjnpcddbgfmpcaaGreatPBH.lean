/-
  Texts of the proof, part 34 of 39.
-/
import Derived.Test.YtjnpcddbgfmpcaaGreatPBG
import Derived.Test.YtjnpcddbgfmpcaaGreatPAH

/-
  The builder in memory: writing a map. Conditions: the builder lies in memory; the lists of keys and values are none of its blocks.
-/
namespace Go.Proofs.YtjnpcddbgfmpcaaGreat
open Go Go.ChangeShapes Go.WideShapes Go.ChangeAt Go.RowKit Go.Joins Go.Deep
open Go.Proofs.YtjnpcddbgfmpcaaGreat.Ft (V3 vV okV ValsAt inlineB legalB packF codeF typedF allF)
set_option linter.unusedVariables false
set_option linter.unusedSimpArgs false
theorem headM_le {most x : Int} {k : V3} {n : Nat} {s : St} (h : (s.1.length : Int) ≤ most) : ((headM most x k n s).1.length : Int) ≤ most := by
  unfold headM
  exact numS_le (numS_le (elemsS_le (x := x) [k] (alignS_le h)))
theorem putM_le {most : Int} {k : V3} {l : List V3} {s : St} (h : (s.1.length : Int) ≤ most) : ((putM most k l s).2.1.length : Int) ≤ most := by
  unfold putM
  dsimp only
  by_cases ha : checkE k l ≠ 0
  · rw [if_pos ha]; exact h
  rw [if_neg ha]
  generalize allF l k s.1.length 3 = X
  by_cases hb : X = 0
  · rw [if_pos hb]; exact h
  rw [if_neg hb]
  have h4 : ((tagsS most X l (elemsS most X l (headM most X k l.length s))).1.length : Int) ≤ most := tagsS_le l (elemsS_le l (headM_le h))
  generalize tagsS most X l (elemsS most X l (headM most X k l.length s)) = s6 at h4 ⊢
  by_cases hc : s6.2 ≠ 0
  · rw [if_pos hc]; exact h4
  · rw [if_neg hc]; exact h4
theorem putM_okV {most : Int} {k : V3} {l : List V3} {s : St} (h : (s.1.length : Int) ≤ most) (hm : most ≤ 1048576) : okV (putM most k l s).1.1 := by
  unfold putM
  dsimp only
  by_cases ha : checkE k l ≠ 0
  · rw [if_pos ha]; exact ok0
  rw [if_neg ha]
  generalize allF l k s.1.length 3 = X
  by_cases hb : X = 0
  · rw [if_pos hb]; exact ok0
  rw [if_neg hb]
  have h5 := headM_le (x := X) (k := k) (n := l.length) h
  generalize tagsS most X l (elemsS most X l (headM most X k l.length s)) = s6
  by_cases hc : s6.2 ≠ 0
  · rw [if_pos hc]; exact ok0
  · rw [if_neg hc]
    refine ⟨Int.natCast_nonneg _, ?_⟩
    show (List.length _ : Int) ≤ _
    omega
def BS.tableEnd (most : Int) (i : Int) (vals : List V3) (x : BS) : BS :=
  if x.e = 0 then (({ x with s := (putM most (x.vals.getD i.toNat (0, 0, 0)) vals x.s).2 } : BS).fail (putM most (x.vals.getD i.toNat (0, 0, 0)) vals x.s).1.2).push (putM most (x.vals.getD i.toNat (0, 0, 0)) vals x.s).1.1 else x
theorem BS.table_eq (most : Int) (sh : Bool) (list : ByteArray) (keys vals : List V3) (x : BS) : x.table most sh list keys vals = if (getP x.lists list).2 && sh then x.tableEnd most (getP x.lists list).1 vals else ({ x with s := (vputF most 4 0 keys x.s).2, e := failS x.e (vputF most 4 0 keys x.s).1.2, lists := putP list x.vals.length x.lists, vals := x.vals ++ [(vputF most 4 0 keys x.s).1.1] } : BS).tableEnd most x.vals.length vals := by
  unfold BS.table BS.tableEnd
  dsimp only
  cases hg : ((getP x.lists list).2 && sh) with
  | true => simp only [if_true]
  | false => simp only [Bool.false_eq_true, if_false]
section
variable {B : Nat} {q : Ptrs} {most flags : Int} {κ κ0 κ1 : Nat → Nat} {x y : BS} {w w' w0 : World} {Kp : List (Nat × Obj)}
theorem mput_any {k : V3} {lv : Value} {l : List V3} (h : Bd B q most flags κ x w) (hkk : okV k) (hv : ValsAt w lv l) (ha : Apart0 κ w lv) (hnil : ∀ c, lv = .slice none 0 c → c = 0) (hlen : l.length ≤ 1048575) (hok : ∀ v ∈ l, okV v) (hs : x.s.2 = 0) :
    Calls Tryz.prog 168 #[bptr q.b, vV k, lv] w fun r w' => r = .returned (putV (putM most k l x.s).1) ∧ ∀ κ1, Bd B q most flags κ1 x w → TurnX B q most flags κ1 { x with s := (putM most k l x.s).2 } w w' := by
  refine h.buf_callsA (putM_le h.ok.len) fun o ho hκ => ?_
  have hap : ∀ ad n c, lv = .slice (some ad) n c → ad.block < w.heap.size ∧ ¬ Own2 q.b o ad.block := fun ad n c e => ⟨(ha ad n c e).1, fun hk => by have h1 := hκ _ hk; have h2 := (ha ad n c e).2; omega⟩
  exact put_map x.s k lv l ho (Nat.zero_le _) h.ok.len h.ok.m1 hv hnil hlen hok hkk hap hs
theorem Env.mput {k : V3} {lv : Value} {l : List V3} (h : Env B q most flags w0 κ0 Kp x w) (hkk : okV k) (hv : ValsAt w0 lv l) (ha : Apart0 κ0 w0 lv) (hnil : ∀ c, lv = .slice none 0 c → c = 0) (hlen : l.length ≤ 1048575) (hok : ∀ v ∈ l, okV v) (hs : x.s.2 = 0) :
    Calls Tryz.prog 168 #[bptr q.b, vV k, lv] w fun r w' => r = .returned (putV (putM most k l x.s).1) ∧ AllE B q most flags w0 κ0 x { x with s := (putM most k l x.s).2 } w w' := by
  obtain ⟨κ, h1, h2, h3⟩ := h
  have hv2 : ValsAt w lv l := vals_moved hv h2.1 (fun ad n c e hk => hk (ha ad n c e).2)
  have ha2 : Apart0 κ w lv := fun ad n c e => ⟨Nat.lt_of_lt_of_le (ha ad n c e).1 h2.1.size, (h2.2 _ (ha ad n c e).1).trans (ha ad n c e).2⟩
  exact (mput_any h1 hkk hv2 ha2 hnil hlen hok hs).mono fun r w' hr => ⟨hr.1, allE_of hr.2⟩
theorem Env.row8 (h : Env B q most flags w0 κ0 Kp x w) : ∃ va vc, w.heap[q.p]? = some (rowB q flags (.slice va x.vals.length vc) x.e) ∧ OwnVals w 0 (.slice va x.vals.length vc) x.vals := by
  obtain ⟨κ, h1, _⟩ := h
  obtain ⟨_, vv, k1, k2, _⟩ := h1.self
  obtain ⟨va, vc, rfl, _⟩ := own_form k2
  exact ⟨va, vc, k1, k2⟩
theorem Env.vals_at (h : Env B q most flags w0 κ0 Kp x w) {vv : Value} {e : Int} (hr : w.heap[q.p]? = some (rowB q flags vv e)) : OwnVals w 0 vv x.vals := by
  obtain ⟨κ, h1, _⟩ := h
  obtain ⟨_, v2, k1, k2, _⟩ := h1.self
  rw [hr] at k1
  injection k1 with k1
  injection k1 with k1
  have : vv = v2 := Option.some.inj (by exact congrArg (fun a : Array Value => a[8]?) k1)
  subst this
  exact k2
theorem own_some {w : World} {B : Nat} {a : Option Addr} {n c : Nat} {l : List V3} (h : OwnVals w B (.slice a n c) l) (hl : 0 < l.length) : ∃ g, a = some ⟨g, 0, none⟩ := by
  rcases h.2 with ⟨e, h0⟩ | ⟨g, cap, cur, e, _⟩
  · omega
  · cases e; exact ⟨g, rfl⟩
theorem Env.val3 (h : Env B q most flags w0 κ0 Kp x w) {vb n vc : Nat} {e : Int} (hr : w.heap[q.p]? = some (rowB q flags (.slice (some ⟨vb, 0, none⟩) n vc) e)) {i : Nat} {k : V3} (hk : x.vals[i]? = some k) : w.cell? ⟨vb, i * 3, none⟩ = some (.int .i64 k.1) ∧ w.cell? ⟨vb, i * 3 + 1, none⟩ = some (.int .i64 k.2.1) ∧ w.cell? ⟨vb, i * 3 + 2, none⟩ = some (.int .u64 k.2.2) := by
  obtain ⟨_, _, e1, hcl⟩ := (h.vals_at hr).vals
  obtain ⟨_, _, e2, t0, t1, t2⟩ := hcl i _ hk
  injection e1 with e1 _ _
  rw [← e1] at e2
  cases e2
  simp only [Nat.zero_add] at t0 t1 t2
  exact ⟨t0, t1, t2⟩
def EnvI (B : Nat) (q : Ptrs) (most flags : Int) (w0 : World) (κ0 : Nat → Nat) (Kp : List (Nat × Obj)) (vv : Value) (e : Int) (xs : List BS) (z : BS) (p : Nat) (w : World) : Prop := EnvW B q most flags w0 κ0 Kp xs z p w ∧ (p = 0 → w.heap[q.p]? = some (rowB q flags vv e))
theorem EnvI.grew {vv : Value} {e : Int} {xs : List BS} {z : BS} : ∀ (p : Nat) (w w' : World), Grew w w' → EnvI B q most flags w0 κ0 Kp vv e xs z p w → EnvI B q most flags w0 κ0 Kp vv e xs z p w' := fun p w w' hg h => ⟨EnvW.grew p w w' hg h.1, fun hp => hg.heap (h.2 hp)⟩
end
set_option maxRecDepth 100000 in
set_option maxHeartbeats 8000000 in
theorem table1_any {B : Nat} {q : Ptrs} {most flags : Int} {κ : Nat → Nat} {x : BS} {w : World} (n1 n2 n3 : Nat) (i : Nat) (lv : Value) (l : List V3) (hv : ValsAt w lv l) (ha : Apart0 κ w lv) (hnil : ∀ c, lv = .slice none 0 c → c = 0) (hlen : l.length ≤ 1048575) (hok : ∀ v ∈ l, okV v) (hi : i < x.vals.length) (hg : x.Good) (hx : x.e = 0) (he : Env B q most flags w κ [(n3, Obj.cells #[lv] 51 (0, 0)), (n2, Obj.cells #[.int .i64 i] 3 (0, 0)), (n1, Obj.cells #[bptr q.p] 23 (0, 0))] x w) : Calls Tryz.prog 167 #[.pointer (some ⟨n1, 0, none⟩), .pointer (some ⟨n2, 0, none⟩), .pointer (some ⟨n3, 0, none⟩)] w fun r w' => r = .returned (.tuple #[]) ∧ TurnX B q most flags κ (x.tableEnd most i l) w w' := by
  have HE := Lib.hid he
  have HM3 : Hid ((n3, Obj.cells #[lv] 51 (0, 0)) ∈ ([(n3, Obj.cells #[lv] 51 (0, 0)), (n2, Obj.cells #[.int .i64 i] 3 (0, 0)), (n1, Obj.cells #[bptr q.p] 23 (0, 0))] : List (Nat × Obj))) := List.mem_cons_self
  have HM2 : Hid ((n2, Obj.cells #[.int .i64 i] 3 (0, 0)) ∈ ([(n3, Obj.cells #[lv] 51 (0, 0)), (n2, Obj.cells #[.int .i64 i] 3 (0, 0)), (n1, Obj.cells #[bptr q.p] 23 (0, 0))] : List (Nat × Obj))) := List.mem_cons_of_mem _ (List.mem_cons_self)
  have HM1 : Hid ((n1, Obj.cells #[bptr q.p] 23 (0, 0)) ∈ ([(n3, Obj.cells #[lv] 51 (0, 0)), (n2, Obj.cells #[.int .i64 i] 3 (0, 0)), (n1, Obj.cells #[bptr q.p] 23 (0, 0))] : List (Nat × Obj))) := List.mem_cons_of_mem _ (List.mem_cons_of_mem _ (List.mem_cons_self))
  obtain ⟨k, hkv⟩ : ∃ k, x.vals[i]? = some k := ⟨_, List.getElem?_eq_getElem hi⟩
  have HKO : Hid (okV k) := he.ok.okL k (List.mem_of_getElem? hkv)
  have hgd : x.vals.getD ((i : Nat) : Int).toNat (0, 0, 0) = k := by rw [Int.toNat_natCast, List.getD_eq_getElem?_getD, hkv]; rfl
  have HPV : Hid (∀ Kp w2, Env B q most flags w κ Kp x w2 → Calls Tryz.prog 168 #[bptr q.b, vV k, lv] w2 fun r w' => r = .returned (putV (putM most k l x.s).1) ∧ AllE B q most flags w κ x { x with s := (putM most k l x.s).2 } w2 w') := fun Kp w2 h => h.mput HKO.out hv ha hnil hlen hok (hg.s0 hx)
  have HVO : Hid (okV (putM most k l x.s).1.1) := putM_okV he.ok.len he.ok.m1
  have HY : Hid (x.tableEnd most i l = (({ x with s := (putM most k l x.s).2 } : BS).fail (putM most k l x.s).1.2).push (putM most k l x.s).1.1) := by show _ = _; unfold BS.tableEnd; rw [if_pos hx, hgd]
  generalize putM most k l x.s = PP at HPV HVO HY
  obtain ⟨⟨⟨ty, wd, n⟩, ee⟩, s1⟩ := PP
  obtain ⟨k0, k1, k2⟩ := k
  have HKI := Lib.hid hkv
  obtain ⟨va, vc, hrow, hown⟩ := he.row8
  obtain ⟨vb, rfl⟩ := own_some hown (by omega)
  have HROW := Lib.hid hrow
  have hii : (i : Int) < x.vals.length := by omega
  clear he hg hv ha hok hnil hgd hkv hrow hown hlen
  obtain ⟨ev, hev⟩ : ∃ ev, x.e = ev := ⟨_, rfl⟩
  rw [hev] at HROW
  clear hev hx
  go_enter Tryz.func167, Tryz.ntmps167
  go_wp2_with fail
  refine wp_region_phases [14, 19] (EnvI B q most flags w κ [(n3, Obj.cells #[lv] 51 (0, 0)), (n2, Obj.cells #[.int .i64 i] 3 (0, 0)), (n1, Obj.cells #[bptr q.p] 23 (0, 0))] (.slice (some ⟨vb, 0, none⟩) x.vals.length vc) ev [x] ({ x with s := s1 })) (fun _ w w' => Grew w w') (NewT 18 (NewE B q most flags w κ [(n3, Obj.cells #[lv] 51 (0, 0)), (n2, Obj.cells #[.int .i64 i] 3 (0, 0)), (n1, Obj.cells #[bptr q.p] 23 (0, 0))] (.cells #[.int .i64 0, .int .i64 0, .int .u64 0] 92 (0, 0)) (x)) (NewE B q most flags w κ [(n3, Obj.cells #[lv] 51 (0, 0)), (n2, Obj.cells #[.int .i64 i] 3 (0, 0)), (n1, Obj.cells #[bptr q.p] 23 (0, 0))] (.cells #[.int .i64 0, .int .i64 0, .int .u64 0] 92 (0, 0)) ({ x with s := s1 })) (NewE B q most flags w κ [(n3, Obj.cells #[lv] 51 (0, 0)), (n2, Obj.cells #[.int .i64 i] 3 (0, 0)), (n1, Obj.cells #[bptr q.p] 23 (0, 0))] (.cells #[.int .i64 ty, .int .i64 wd, .int .u64 n] 92 (0, 0)) ({ x with s := s1 }))) [[], [0], [0, 1], [0, 1, 2], [0, 1, 2, 3], [], [5], [5, 6], [5, 6, 7], [5, 6, 7, 8], [], [5, 6, 7, 8, 9, 10], [5, 6, 7, 8, 9, 10, 11], [], [0, 1, 2, 3, 4, 5, 6, 7, 8, 9, 10, 11, 12, 13], [0, 1, 2, 3, 4, 5, 6, 7, 8, 9, 10, 11, 12, 13, 14], [0, 1, 2, 3, 4, 5, 6, 7, 8, 9, 10, 11, 12, 13, 14, 15], [0, 1, 2, 3, 4, 5, 6, 7, 8, 9, 10, 11, 12, 13, 14, 15], [], [0, 1, 2, 3, 4, 5, 6, 7, 8, 9, 10, 11, 12, 13, 14, 15, 16, 18], [0, 1, 2, 3, 4, 5, 6, 7, 8, 9, 10, 11, 12, 13, 14, 15, 16, 17, 18, 19]] [[(11, 5), (12, 6), (13, 7), (14, 8), (15, 9), (16, 10), (17, 11), (18, 12), (19, 13), (3, 18)], [(6, 0), (11, 5), (12, 6), (13, 7), (14, 8), (15, 9), (16, 10), (17, 11), (18, 12), (19, 13), (3, 18)], [(6, 0), (7, 1), (11, 5), (12, 6), (13, 7), (14, 8), (15, 9), (16, 10), (17, 11), (18, 12), (19, 13), (3, 18)], [(6, 0), (7, 1), (8, 2), (11, 5), (12, 6), (13, 7), (14, 8), (15, 9), (16, 10), (17, 11), (18, 12), (19, 13), (3, 18)], [(6, 0), (7, 1), (8, 2), (9, 3), (11, 5), (12, 6), (13, 7), (14, 8), (15, 9), (16, 10), (17, 11), (18, 12), (19, 13), (3, 18)], [(6, 0), (7, 1), (8, 2), (9, 3), (10, 4), (16, 10), (19, 13), (3, 18)], [(6, 0), (7, 1), (8, 2), (9, 3), (10, 4), (11, 5), (16, 10), (19, 13), (3, 18)], [(6, 0), (7, 1), (8, 2), (9, 3), (10, 4), (11, 5), (12, 6), (16, 10), (19, 13), (3, 18)], [(6, 0), (7, 1), (8, 2), (9, 3), (10, 4), (11, 5), (12, 6), (13, 7), (16, 10), (19, 13), (3, 18)], [(6, 0), (7, 1), (8, 2), (9, 3), (10, 4), (11, 5), (12, 6), (13, 7), (14, 8), (16, 10), (19, 13), (3, 18)], [(6, 0), (7, 1), (8, 2), (9, 3), (10, 4), (11, 5), (12, 6), (13, 7), (14, 8), (15, 9), (19, 13), (3, 18)], [(6, 0), (7, 1), (8, 2), (9, 3), (10, 4), (11, 5), (12, 6), (13, 7), (14, 8), (15, 9), (16, 10), (19, 13), (3, 18)], [(6, 0), (7, 1), (8, 2), (9, 3), (10, 4), (11, 5), (12, 6), (13, 7), (14, 8), (15, 9), (16, 10), (17, 11), (19, 13), (3, 18)], [(6, 0), (7, 1), (8, 2), (9, 3), (10, 4), (11, 5), (12, 6), (13, 7), (14, 8), (15, 9), (16, 10), (17, 11), (18, 12), (3, 18)], [(6, 0), (7, 1), (8, 2), (9, 3), (10, 4), (11, 5), (12, 6), (13, 7), (14, 8), (15, 9), (16, 10), (17, 11), (18, 12), (19, 13), (3, 18)], [(6, 0), (7, 1), (8, 2), (9, 3), (10, 4), (11, 5), (12, 6), (13, 7), (14, 8), (15, 9), (16, 10), (17, 11), (18, 12), (19, 13), (20, 14), (3, 18)], [(6, 0), (7, 1), (8, 2), (9, 3), (10, 4), (11, 5), (12, 6), (13, 7), (14, 8), (15, 9), (16, 10), (17, 11), (18, 12), (19, 13), (20, 14), (5, 15), (22, 17), (3, 18)], [(6, 0), (7, 1), (8, 2), (9, 3), (10, 4), (11, 5), (12, 6), (13, 7), (14, 8), (15, 9), (16, 10), (17, 11), (18, 12), (19, 13), (20, 14), (5, 15), (21, 16), (3, 18)], [(6, 0), (7, 1), (8, 2), (9, 3), (10, 4), (11, 5), (12, 6), (13, 7), (14, 8), (15, 9), (16, 10), (17, 11), (18, 12), (19, 13), (20, 14), (5, 15), (21, 16), (22, 17)], [(6, 0), (7, 1), (8, 2), (9, 3), (10, 4), (11, 5), (12, 6), (13, 7), (14, 8), (15, 9), (16, 10), (17, 11), (18, 12), (19, 13), (20, 14), (5, 15), (21, 16), (22, 17), (3, 18)], [(6, 0), (7, 1), (8, 2), (9, 3), (10, 4), (11, 5), (12, 6), (13, 7), (14, 8), (15, 9), (16, 10), (17, 11), (18, 12), (19, 13), (20, 14), (5, 15), (21, 16), (22, 17), (3, 18)]] [(6, 0), (7, 1), (8, 2), (9, 3), (10, 4), (11, 5), (12, 6), (13, 7), (14, 8), (15, 9), (16, 10), (17, 11), (18, 12), (19, 13), (20, 14), (5, 15), (21, 16), (22, 17), (3, 18), (4, 20)]
    [IsP (bptr q.p), IsP (bptr q.p), IsP (bptr q.p), IsP (bptr q.p), IsP (bptr q.b), IsP (bptr q.p), IsP (bptr q.p), IsP (.pointer (some ⟨q.p, 3, none⟩)), IsP (.pointer (some ⟨q.p, 8, none⟩)), IsP (.slice (some ⟨vb, 0, none⟩) x.vals.length vc), IsP (.int .i64 i), IsP (.pointer (some ⟨vb, i * 3, none⟩)), IsP (.agg #[.int .i64 k0, .int .i64 k1, .int .u64 k2]), IsP (lv), IsP (.tuple #[.agg #[.int .i64 ty, .int .i64 wd, .int .u64 n], .int .i64 ee]), IsP (.tuple #[.agg #[.int .i64 ty, .int .i64 wd, .int .u64 n], .int .i64 ee]), IsP (.agg #[.int .i64 ty, .int .i64 wd, .int .u64 n]), IsP (.int .i64 ee), NewV (NewE B q most flags w κ [(n3, Obj.cells #[lv] 51 (0, 0)), (n2, Obj.cells #[.int .i64 i] 3 (0, 0)), (n1, Obj.cells #[bptr q.p] 23 (0, 0))] (.cells #[.int .i64 0, .int .i64 0, .int .u64 0] 92 (0, 0)) (x)) (NewE B q most flags w κ [(n3, Obj.cells #[lv] 51 (0, 0)), (n2, Obj.cells #[.int .i64 i] 3 (0, 0)), (n1, Obj.cells #[bptr q.p] 23 (0, 0))] (.cells #[.int .i64 0, .int .i64 0, .int .u64 0] 92 (0, 0)) ({ x with s := s1 })) (NewE B q most flags w κ [(n3, Obj.cells #[lv] 51 (0, 0)), (n2, Obj.cells #[.int .i64 i] 3 (0, 0)), (n1, Obj.cells #[bptr q.p] 23 (0, 0))] (.cells #[.int .i64 ty, .int .i64 wd, .int .u64 n] 92 (0, 0)) ({ x with s := s1 })), fun _ _ _ => True, IsP (.int .i64 ee)]
    (by kernel_rfl) (EnvI.grew) (⟨HE.out.grew (Grew.refl _).drew, fun _ => (Grew.refl w).drew.heap HROW.out⟩) (by kernel_rfl) (by kernel_rfl) ⟨isP_st, isP_st, isP_st, isP_st, isP_st, isP_st, isP_st, isP_st, isP_st, isP_st, isP_st, isP_st, isP_st, isP_st, isP_st, isP_st, isP_st, isP_st, NewV.st NewE.grew NewE.grew NewE.grew, ⟨fun _ _ _ _ _ h => h, fun _ _ _ _ _ h => h⟩, isP_st, trivial⟩ rfl ?_ ?_
  · intro y w2 hW hF
    simp only [factsP, IsP, Nat.reduceAdd, List.length_cons, List.length_nil] at hF hW
    have h0 := hF.1
    have h1 := hF.2.1
    have h2 := hF.2.2.1
    have h3 := hF.2.2.2.1
    have h4 := hF.2.2.2.2.1
    have h5 := hF.2.2.2.2.2.1
    have h6 := hF.2.2.2.2.2.2.1
    have h7 := hF.2.2.2.2.2.2.2.1
    have h8 := hF.2.2.2.2.2.2.2.2.1
    have h9 := hF.2.2.2.2.2.2.2.2.2.1
    have h10 := hF.2.2.2.2.2.2.2.2.2.2.1
    have h11 := hF.2.2.2.2.2.2.2.2.2.2.2.1
    have h12 := hF.2.2.2.2.2.2.2.2.2.2.2.2.1
    have h13 := hF.2.2.2.2.2.2.2.2.2.2.2.2.2.1
    have h14 := hF.2.2.2.2.2.2.2.2.2.2.2.2.2.2.1
    have h15 := hF.2.2.2.2.2.2.2.2.2.2.2.2.2.2.2.1
    have h16 := hF.2.2.2.2.2.2.2.2.2.2.2.2.2.2.2.2.1
    have h17 := hF.2.2.2.2.2.2.2.2.2.2.2.2.2.2.2.2.2.1
    have h18 := hF.2.2.2.2.2.2.2.2.2.2.2.2.2.2.2.2.2.2.1
    have h20 := hF.2.2.2.2.2.2.2.2.2.2.2.2.2.2.2.2.2.2.2.2.1
    clear hF
    simp only [fillL, Act.put, List.setIfInBounds_toArray, List.set_cons_zero, List.set_cons_succ, List.getD_cons_zero, List.getD_cons_succ]
    simp only [h0, h1, h2, h3, h4, h5, h6, h7, h8, h9, h10, h11, h12, h13, h14, h15, h16, h17, h20]
    clear h0 h1 h2 h3 h4 h5 h6 h7 h8 h9 h10 h11 h12 h13 h14 h15 h16 h17 h20
    obtain ⟨nn, e18, hE⟩ := (show NewV _ _ _ 2 _ _ from h18)
    simp only [e18]
    have HE2 := Lib.hid hE.2
    clear h18 e18 hE hW
    have HM1b : Hid ((n1, Obj.cells #[bptr q.p] 23 (0, 0)) ∈ (((nn, Obj.cells #[.int .i64 ty, .int .i64 wd, .int .u64 n] 92 (0, 0)) :: [(n3, Obj.cells #[lv] 51 (0, 0)), (n2, Obj.cells #[.int .i64 i] 3 (0, 0)), (n1, Obj.cells #[bptr q.p] 23 (0, 0))]) : List (Nat × Obj))) := List.mem_cons_of_mem _ HM1.out
    have cb := Env.cell HE2.out HM1b.out 0 _ rfl
    go_wp2_with fail
    refine (HE2.out.call fun κ1 hb hz => pfail_any ee hb).mono ?_
    rintro r w3 ⟨rfl, he⟩
    have HE3 := Lib.hid he
    clear he cb
    go_wp2_with fail
    refine wp_region_phases [4] (EnvW B q most flags w κ ((nn, Obj.cells #[.int .i64 ty, .int .i64 wd, .int .u64 n] 92 (0, 0)) :: [(n3, Obj.cells #[lv] 51 (0, 0)), (n2, Obj.cells #[.int .i64 i] 3 (0, 0)), (n1, Obj.cells #[bptr q.p] 23 (0, 0))]) [(({ x with s := s1 } : BS).fail ee)] ((({ x with s := s1 } : BS).fail ee).push (ty, wd, n))) (fun _ w w' => Grew w w') ((fun p (_ : Nat → Value) => (fun _ _ _ => True) p)) [[], [0], [0, 1], [], [0, 1, 2, 3]] [[(31, 3)], [(28, 0), (31, 3)], [(28, 0), (29, 1), (31, 3)], [(28, 0), (29, 1), (30, 2)], [(28, 0), (29, 1), (30, 2), (31, 3)]] [(28, 0), (29, 1), (30, 2), (31, 3), (32, 4)]
      [IsP (bptr q.p), IsP (bptr q.p), IsP (bptr q.p), IsP (.agg #[.int .i64 ty, .int .i64 wd, .int .u64 n]), IsP (.tuple #[])]
      (by kernel_rfl) (EnvW.grew) (HE3.out.grew (Grew.refl _).drew) (by kernel_rfl) (by kernel_rfl) ⟨isP_st, isP_st, isP_st, isP_st, isP_st, trivial⟩ rfl ?_ ?_
    · intro y w2 hW hF
      simp only [factsP, IsP, Nat.reduceAdd, List.length_cons, List.length_nil] at hF hW
      have h0 := hF.1
      have h1 := hF.2.1
      have h2 := hF.2.2.1
      have h3 := hF.2.2.2.1
      have h4 := hF.2.2.2.2.1
      clear hF
      simp only [fillL, Act.put, List.setIfInBounds_toArray, List.set_cons_zero, List.set_cons_succ, List.getD_cons_zero, List.getD_cons_succ]
      simp only [h0, h1, h2, h3, h4]
      clear h0 h1 h2 h3 h4
      go_wp2
      go_end0
      exact ⟨rfl, by rw [HY.out]; exact Env.turn hW⟩
    refine ⟨?_, ?_⟩
    · refine wordP_read 0 0 (by kernel_rfl) (by kernel_rfl) (by kernel_rfl) ?_
      intro y w2 p hlo hhi hW hD K hK
      have dq := Env.cell hW HM1b.out 0 _ rfl
      clear hD
      generalize hAA : fillL y _ _ = AA at hK ⊢
      simp only [fillL, Act.put, List.setIfInBounds_toArray, List.set_cons_zero, List.set_cons_succ, List.getD_cons_zero, List.getD_cons_succ, IsP] at hAA
      subst hAA
      simp only [List.getD_cons_zero, List.getD_cons_succ, IsP] at hK
      refine ite_yes (by rfl) ?_
      go_simp
      exact hK _ _ _ rfl (Grew.refl _) rfl
    refine ⟨?_, ?_⟩
    · refine wordP_read 0 0 (by kernel_rfl) (by kernel_rfl) (by kernel_rfl) ?_
      intro y w2 p hlo hhi hW hD K hK
      simp only [depsP, List.getD_cons_zero, List.getD_cons_succ, IsP] at hD
      have h0 := hD.1
      clear hD
      generalize hAA : fillL y _ _ = AA at hK ⊢
      simp only [fillL, Act.put, List.setIfInBounds_toArray, List.set_cons_zero, List.set_cons_succ, List.getD_cons_zero, List.getD_cons_succ, IsP] at hAA
      subst hAA
      simp only [List.getD_cons_zero, List.getD_cons_succ, IsP] at hK
      simp only [h0] at hK ⊢
      clear h0
      refine ite_yes (by rfl) ?_
      go_simp
      exact hK _ _ _ rfl (Grew.refl _) rfl
    refine ⟨?_, ?_⟩
    · refine wordP_read 0 0 (by kernel_rfl) (by kernel_rfl) (by kernel_rfl) ?_
      intro y w2 p hlo hhi hW hD K hK
      simp only [depsP, List.getD_cons_zero, List.getD_cons_succ, IsP] at hD
      have h0 := hD.1
      have h1 := hD.2.1
      clear hD
      generalize hAA : fillL y _ _ = AA at hK ⊢
      simp only [fillL, Act.put, List.setIfInBounds_toArray, List.set_cons_zero, List.set_cons_succ, List.getD_cons_zero, List.getD_cons_succ, IsP] at hAA
      subst hAA
      simp only [List.getD_cons_zero, List.getD_cons_succ, IsP] at hK
      simp only [h0, h1] at hK ⊢
      clear h0 h1
      refine ite_yes (by rfl) ?_
      go_simp
      exact hK _ _ _ rfl (Grew.refl _) rfl
    refine ⟨?_, ?_⟩
    · refine wordP_read 0 0 (by kernel_rfl) (by kernel_rfl) (by kernel_rfl) ?_
      intro y w2 p hlo hhi hW hD K hK
      have dd0 := Env.cell hW List.mem_cons_self 0 _ rfl
      have dd1 := Env.cell hW List.mem_cons_self 1 _ rfl
      have dd2 := Env.cell hW List.mem_cons_self 2 _ rfl
      clear hD
      generalize hAA : fillL y _ _ = AA at hK ⊢
      simp only [fillL, Act.put, List.setIfInBounds_toArray, List.set_cons_zero, List.set_cons_succ, List.getD_cons_zero, List.getD_cons_succ, IsP] at hAA
      subst hAA
      simp only [List.getD_cons_zero, List.getD_cons_succ, IsP] at hK
      refine ite_yes (by rfl) ?_
      go_simp
      exact hK _ _ _ rfl (Grew.refl _) rfl
    refine ⟨?_, ?_⟩
    · refine wordP_write 0 rfl ?_
      intro y w2 hW hD K hK
      simp only [depsP, List.getD_cons_zero, List.getD_cons_succ, IsP] at hD
      have h0 := hD.1
      have h1 := hD.2.1
      have h2 := hD.2.2.1
      have h3 := hD.2.2.2.1
      clear hD
      generalize hAA : fillL y _ _ = AA at hK ⊢
      simp only [fillL, Act.put, List.setIfInBounds_toArray, List.set_cons_zero, List.set_cons_succ, List.getD_cons_zero, List.getD_cons_succ, IsP] at hAA
      subst hAA
      simp only [List.getD_cons_zero, List.getD_cons_succ, IsP] at hK
      simp only [h0, h1, h2, h3] at hK ⊢
      clear h0 h1 h2 h3
      refine ite_yes (by rfl) ?_
      go_simp
      refine (Env.call hW fun κ1 hb hz => ppush_any (ty, wd, n) HVO.out hb).mono ?_
      rintro r w3 ⟨rfl, he⟩
      exact hK _ _ _ rfl trivial he rfl
    trivial
  refine ⟨?_, ?_⟩
  · refine wordP_read 0 0 (by kernel_rfl) (by kernel_rfl) (by kernel_rfl) ?_
    intro y w2 p hlo hhi hW hD K hK
    have d10 := Env.cell hW.1 HM1.out 0 _ rfl
    clear hD
    generalize hAA : fillL y _ _ = AA at hK ⊢
    simp only [fillL, Act.put, List.setIfInBounds_toArray, List.set_cons_zero, List.set_cons_succ, List.getD_cons_zero, List.getD_cons_succ, IsP] at hAA
    subst hAA
    simp only [List.getD_cons_zero, List.getD_cons_succ, IsP] at hK
    refine ite_yes (by rfl) ?_
    go_simp
    exact hK _ _ _ rfl (Grew.refl _) rfl
  refine ⟨?_, ?_⟩
  · refine wordP_read 0 0 (by kernel_rfl) (by kernel_rfl) (by kernel_rfl) ?_
    intro y w2 p hlo hhi hW hD K hK
    simp only [depsP, List.getD_cons_zero, List.getD_cons_succ, IsP] at hD
    have h0 := hD.1
    clear hD
    generalize hAA : fillL y _ _ = AA at hK ⊢
    simp only [fillL, Act.put, List.setIfInBounds_toArray, List.set_cons_zero, List.set_cons_succ, List.getD_cons_zero, List.getD_cons_succ, IsP] at hAA
    subst hAA
    simp only [List.getD_cons_zero, List.getD_cons_succ, IsP] at hK
    simp only [h0] at hK ⊢
    clear h0
    refine ite_yes (by rfl) ?_
    go_simp
    exact hK _ _ _ rfl (Grew.refl _) rfl
  refine ⟨?_, ?_⟩
  · refine wordP_read 0 0 (by kernel_rfl) (by kernel_rfl) (by kernel_rfl) ?_
    intro y w2 p hlo hhi hW hD K hK
    simp only [depsP, List.getD_cons_zero, List.getD_cons_succ, IsP] at hD
    have h0 := hD.1
    have h1 := hD.2.1
    clear hD
    generalize hAA : fillL y _ _ = AA at hK ⊢
    simp only [fillL, Act.put, List.setIfInBounds_toArray, List.set_cons_zero, List.set_cons_succ, List.getD_cons_zero, List.getD_cons_succ, IsP] at hAA
    subst hAA
    simp only [List.getD_cons_zero, List.getD_cons_succ, IsP] at hK
    simp only [h0, h1] at hK ⊢
    clear h0 h1
    refine ite_yes (by rfl) ?_
    go_simp
    exact hK _ _ _ rfl (Grew.refl _) rfl
  refine ⟨?_, ?_⟩
  · refine wordP_read 0 0 (by kernel_rfl) (by kernel_rfl) (by kernel_rfl) ?_
    intro y w2 p hlo hhi hW hD K hK
    simp only [depsP, List.getD_cons_zero, List.getD_cons_succ, IsP] at hD
    have h0 := hD.1
    have h1 := hD.2.1
    have h2 := hD.2.2.1
    clear hD
    generalize hAA : fillL y _ _ = AA at hK ⊢
    simp only [fillL, Act.put, List.setIfInBounds_toArray, List.set_cons_zero, List.set_cons_succ, List.getD_cons_zero, List.getD_cons_succ, IsP] at hAA
    subst hAA
    simp only [List.getD_cons_zero, List.getD_cons_succ, IsP] at hK
    simp only [h0, h1, h2] at hK ⊢
    clear h0 h1 h2
    refine ite_yes (by rfl) ?_
    go_simp
    exact hK _ _ _ rfl (Grew.refl _) rfl
  refine ⟨?_, ?_⟩
  · refine wordP_read 0 0 (by kernel_rfl) (by kernel_rfl) (by kernel_rfl) ?_
    intro y w2 p hlo hhi hW hD K hK
    have dd := Env.at0 hW.1
    simp only [depsP, List.getD_cons_zero, List.getD_cons_succ, IsP] at hD
    have h0 := hD.1
    have h1 := hD.2.1
    have h2 := hD.2.2.1
    have h3 := hD.2.2.2.1
    clear hD
    generalize hAA : fillL y _ _ = AA at hK ⊢
    simp only [fillL, Act.put, List.setIfInBounds_toArray, List.set_cons_zero, List.set_cons_succ, List.getD_cons_zero, List.getD_cons_succ, IsP] at hAA
    subst hAA
    simp only [List.getD_cons_zero, List.getD_cons_succ, IsP] at hK
    simp only [h0, h1, h2, h3] at hK ⊢
    clear h0 h1 h2 h3
    refine ite_yes (by rfl) ?_
    go_simp
    exact hK _ _ _ rfl (Grew.refl _) rfl
  refine ⟨?_, ?_⟩
  · refine wordP_read 0 0 (by kernel_rfl) (by kernel_rfl) (by kernel_rfl) ?_
    intro y w2 p hlo hhi hW hD K hK
    have d10 := Env.cell hW.1 HM1.out 0 _ rfl
    clear hD
    generalize hAA : fillL y _ _ = AA at hK ⊢
    simp only [fillL, Act.put, List.setIfInBounds_toArray, List.set_cons_zero, List.set_cons_succ, List.getD_cons_zero, List.getD_cons_succ, IsP] at hAA
    subst hAA
    simp only [List.getD_cons_zero, List.getD_cons_succ, IsP] at hK
    refine ite_yes (by rfl) ?_
    go_simp
    exact hK _ _ _ rfl (Grew.refl _) rfl
  refine ⟨?_, ?_⟩
  · refine wordP_read 0 0 (by kernel_rfl) (by kernel_rfl) (by kernel_rfl) ?_
    intro y w2 p hlo hhi hW hD K hK
    simp only [depsP, List.getD_cons_zero, List.getD_cons_succ, IsP] at hD
    have h5 := hD.1
    clear hD
    generalize hAA : fillL y _ _ = AA at hK ⊢
    simp only [fillL, Act.put, List.setIfInBounds_toArray, List.set_cons_zero, List.set_cons_succ, List.getD_cons_zero, List.getD_cons_succ, IsP] at hAA
    subst hAA
    simp only [List.getD_cons_zero, List.getD_cons_succ, IsP] at hK
    simp only [h5] at hK ⊢
    clear h5
    refine ite_yes (by rfl) ?_
    go_simp
    exact hK _ _ _ rfl (Grew.refl _) rfl
  refine ⟨?_, ?_⟩
  · refine wordP_read 0 0 (by kernel_rfl) (by kernel_rfl) (by kernel_rfl) ?_
    intro y w2 p hlo hhi hW hD K hK
    simp only [depsP, List.getD_cons_zero, List.getD_cons_succ, IsP] at hD
    have h5 := hD.1
    have h6 := hD.2.1
    clear hD
    generalize hAA : fillL y _ _ = AA at hK ⊢
    simp only [fillL, Act.put, List.setIfInBounds_toArray, List.set_cons_zero, List.set_cons_succ, List.getD_cons_zero, List.getD_cons_succ, IsP] at hAA
    subst hAA
    simp only [List.getD_cons_zero, List.getD_cons_succ, IsP] at hK
    simp only [h5, h6] at hK ⊢
    clear h5 h6
    refine ite_yes (by rfl) ?_
    go_simp
    exact hK _ _ _ rfl (Grew.refl _) rfl
  refine ⟨?_, ?_⟩
  · refine wordP_read 0 0 (by kernel_rfl) (by kernel_rfl) (by kernel_rfl) ?_
    intro y w2 p hlo hhi hW hD K hK
    simp only [depsP, List.getD_cons_zero, List.getD_cons_succ, IsP] at hD
    have h5 := hD.1
    have h6 := hD.2.1
    have h7 := hD.2.2.1
    clear hD
    generalize hAA : fillL y _ _ = AA at hK ⊢
    simp only [fillL, Act.put, List.setIfInBounds_toArray, List.set_cons_zero, List.set_cons_succ, List.getD_cons_zero, List.getD_cons_succ, IsP] at hAA
    subst hAA
    simp only [List.getD_cons_zero, List.getD_cons_succ, IsP] at hK
    simp only [h5, h6, h7] at hK ⊢
    clear h5 h6 h7
    refine ite_yes (by rfl) ?_
    go_simp
    exact hK _ _ _ rfl (Grew.refl _) rfl
  refine ⟨?_, ?_⟩
  · refine wordP_read 0 0 (by kernel_rfl) (by kernel_rfl) (by kernel_rfl) ?_
    intro y w2 p hlo hhi hW hD K hK
    obtain rfl : p = 0 := by omega
    have dd := row_cellT (hW.2 rfl) 8 _ rfl
    simp only [depsP, List.getD_cons_zero, List.getD_cons_succ, IsP] at hD
    have h5 := hD.1
    have h6 := hD.2.1
    have h7 := hD.2.2.1
    have h8 := hD.2.2.2.1
    clear hD
    generalize hAA : fillL y _ _ = AA at hK ⊢
    simp only [fillL, Act.put, List.setIfInBounds_toArray, List.set_cons_zero, List.set_cons_succ, List.getD_cons_zero, List.getD_cons_succ, IsP] at hAA
    subst hAA
    simp only [List.getD_cons_zero, List.getD_cons_succ, IsP] at hK
    simp only [h5, h6, h7, h8] at hK ⊢
    clear h5 h6 h7 h8
    refine ite_yes (by rfl) ?_
    go_simp
    exact hK _ _ _ rfl (Grew.refl _) rfl
  refine ⟨?_, ?_⟩
  · refine wordP_read 0 0 (by kernel_rfl) (by kernel_rfl) (by kernel_rfl) ?_
    intro y w2 p hlo hhi hW hD K hK
    have d20 := Env.cell hW.1 HM2.out 0 _ rfl
    clear hD
    generalize hAA : fillL y _ _ = AA at hK ⊢
    simp only [fillL, Act.put, List.setIfInBounds_toArray, List.set_cons_zero, List.set_cons_succ, List.getD_cons_zero, List.getD_cons_succ, IsP] at hAA
    subst hAA
    simp only [List.getD_cons_zero, List.getD_cons_succ, IsP] at hK
    refine ite_yes (by rfl) ?_
    go_simp
    exact hK _ _ _ rfl (Grew.refl _) rfl
  refine ⟨?_, ?_⟩
  · refine wordP_read 0 0 (by kernel_rfl) (by kernel_rfl) (by kernel_rfl) ?_
    intro y w2 p hlo hhi hW hD K hK
    simp only [depsP, List.getD_cons_zero, List.getD_cons_succ, IsP] at hD
    have h5 := hD.1
    have h6 := hD.2.1
    have h7 := hD.2.2.1
    have h8 := hD.2.2.2.1
    have h9 := hD.2.2.2.2.1
    have h10 := hD.2.2.2.2.2.1
    clear hD
    generalize hAA : fillL y _ _ = AA at hK ⊢
    simp only [fillL, Act.put, List.setIfInBounds_toArray, List.set_cons_zero, List.set_cons_succ, List.getD_cons_zero, List.getD_cons_succ, IsP] at hAA
    subst hAA
    simp only [List.getD_cons_zero, List.getD_cons_succ, IsP] at hK
    simp only [h5, h6, h7, h8, h9, h10] at hK ⊢
    clear h5 h6 h7 h8 h9 h10
    refine ite_yes (by rfl) ?_
    go_simp
    exact hK _ _ _ rfl (Grew.refl _) rfl
  refine ⟨?_, ?_⟩
  · refine wordP_read 0 0 (by kernel_rfl) (by kernel_rfl) (by kernel_rfl) ?_
    intro y w2 p hlo hhi hW hD K hK
    obtain rfl : p = 0 := by omega
    have tt := Env.val3 hW.1 (hW.2 rfl) HKI.out
    have t0 : w2.cell? ⟨vb, i * 3, none⟩ = some (.int .i64 k0) := tt.1
    have t1 : w2.cell? ⟨vb, i * 3 + 1, none⟩ = some (.int .i64 k1) := tt.2.1
    have t2 : w2.cell? ⟨vb, i * 3 + 2, none⟩ = some (.int .u64 k2) := tt.2.2
    clear tt
    simp only [depsP, List.getD_cons_zero, List.getD_cons_succ, IsP] at hD
    have h5 := hD.1
    have h6 := hD.2.1
    have h7 := hD.2.2.1
    have h8 := hD.2.2.2.1
    have h9 := hD.2.2.2.2.1
    have h10 := hD.2.2.2.2.2.1
    have h11 := hD.2.2.2.2.2.2.1
    clear hD
    generalize hAA : fillL y _ _ = AA at hK ⊢
    simp only [fillL, Act.put, List.setIfInBounds_toArray, List.set_cons_zero, List.set_cons_succ, List.getD_cons_zero, List.getD_cons_succ, IsP] at hAA
    subst hAA
    simp only [List.getD_cons_zero, List.getD_cons_succ, IsP] at hK
    simp only [h5, h6, h7, h8, h9, h10, h11] at hK ⊢
    clear h5 h6 h7 h8 h9 h10 h11
    refine ite_yes (by rfl) ?_
    go_simp
    exact hK _ _ _ rfl (Grew.refl _) rfl
  refine ⟨?_, ?_⟩
  · refine wordP_read 0 0 (by kernel_rfl) (by kernel_rfl) (by kernel_rfl) ?_
    intro y w2 p hlo hhi hW hD K hK
    have d30 := Env.cell hW.1 HM3.out 0 _ rfl
    clear hD
    generalize hAA : fillL y _ _ = AA at hK ⊢
    simp only [fillL, Act.put, List.setIfInBounds_toArray, List.set_cons_zero, List.set_cons_succ, List.getD_cons_zero, List.getD_cons_succ, IsP] at hAA
    subst hAA
    simp only [List.getD_cons_zero, List.getD_cons_succ, IsP] at hK
    refine ite_yes (by rfl) ?_
    go_simp
    exact hK _ _ _ rfl (Grew.refl _) rfl
  refine ⟨?_, ?_⟩
  · refine wordP_write 0 rfl ?_
    intro y w2 hW hD K hK
    simp only [depsP, List.getD_cons_zero, List.getD_cons_succ, IsP] at hD
    have h0 := hD.1
    have h1 := hD.2.1
    have h2 := hD.2.2.1
    have h3 := hD.2.2.2.1
    have h4 := hD.2.2.2.2.1
    have h5 := hD.2.2.2.2.2.1
    have h6 := hD.2.2.2.2.2.2.1
    have h7 := hD.2.2.2.2.2.2.2.1
    have h8 := hD.2.2.2.2.2.2.2.2.1
    have h9 := hD.2.2.2.2.2.2.2.2.2.1
    have h10 := hD.2.2.2.2.2.2.2.2.2.2.1
    have h11 := hD.2.2.2.2.2.2.2.2.2.2.2.1
    have h12 := hD.2.2.2.2.2.2.2.2.2.2.2.2.1
    have h13 := hD.2.2.2.2.2.2.2.2.2.2.2.2.2.1
    clear hD
    generalize hAA : fillL y _ _ = AA at hK ⊢
    simp only [fillL, Act.put, List.setIfInBounds_toArray, List.set_cons_zero, List.set_cons_succ, List.getD_cons_zero, List.getD_cons_succ, IsP] at hAA
    subst hAA
    simp only [List.getD_cons_zero, List.getD_cons_succ, IsP] at hK
    simp only [h0, h1, h2, h3, h4, h5, h6, h7, h8, h9, h10, h11, h12, h13] at hK ⊢
    clear h0 h1 h2 h3 h4 h5 h6 h7 h8 h9 h10 h11 h12 h13
    refine ite_yes (by rfl) ?_
    go_simp
    refine (HPV.out _ w2 hW.1).mono ?_
    rintro r w3 ⟨rfl, hA⟩
    exact hK _ _ _ rfl (NewE.all hA) ⟨hA _ hW.1, fun h => absurd h (by decide)⟩ rfl
  refine ⟨?_, ?_⟩
  · refine wordP_read 1 1 (by kernel_rfl) (by kernel_rfl) (by kernel_rfl) ?_
    intro y w2 p hlo hhi hW hD K hK
    simp only [depsP, List.getD_cons_zero, List.getD_cons_succ, IsP] at hD
    have h0 := hD.1
    have h1 := hD.2.1
    have h2 := hD.2.2.1
    have h3 := hD.2.2.2.1
    have h4 := hD.2.2.2.2.1
    have h5 := hD.2.2.2.2.2.1
    have h6 := hD.2.2.2.2.2.2.1
    have h7 := hD.2.2.2.2.2.2.2.1
    have h8 := hD.2.2.2.2.2.2.2.2.1
    have h9 := hD.2.2.2.2.2.2.2.2.2.1
    have h10 := hD.2.2.2.2.2.2.2.2.2.2.1
    have h11 := hD.2.2.2.2.2.2.2.2.2.2.2.1
    have h12 := hD.2.2.2.2.2.2.2.2.2.2.2.2.1
    have h13 := hD.2.2.2.2.2.2.2.2.2.2.2.2.2.1
    have h14 := hD.2.2.2.2.2.2.2.2.2.2.2.2.2.2.1
    clear hD
    generalize hAA : fillL y _ _ = AA at hK ⊢
    simp only [fillL, Act.put, List.setIfInBounds_toArray, List.set_cons_zero, List.set_cons_succ, List.getD_cons_zero, List.getD_cons_succ, IsP] at hAA
    subst hAA
    simp only [List.getD_cons_zero, List.getD_cons_succ, IsP] at hK
    simp only [h0, h1, h2, h3, h4, h5, h6, h7, h8, h9, h10, h11, h12, h13, h14] at hK ⊢
    clear h0 h1 h2 h3 h4 h5 h6 h7 h8 h9 h10 h11 h12 h13 h14
    refine ite_yes (by rfl) ?_
    go_simp
    exact hK _ _ _ rfl (Grew.refl _) rfl
  refine ⟨?_, ?_⟩
  · refine wordP_read 1 1 (by kernel_rfl) (by kernel_rfl) (by kernel_rfl) ?_
    intro y w2 p hlo hhi hW hD K hK
    simp only [depsP, List.getD_cons_zero, List.getD_cons_succ, IsP] at hD
    have h0 := hD.1
    have h1 := hD.2.1
    have h2 := hD.2.2.1
    have h3 := hD.2.2.2.1
    have h4 := hD.2.2.2.2.1
    have h5 := hD.2.2.2.2.2.1
    have h6 := hD.2.2.2.2.2.2.1
    have h7 := hD.2.2.2.2.2.2.2.1
    have h8 := hD.2.2.2.2.2.2.2.2.1
    have h9 := hD.2.2.2.2.2.2.2.2.2.1
    have h10 := hD.2.2.2.2.2.2.2.2.2.2.1
    have h11 := hD.2.2.2.2.2.2.2.2.2.2.2.1
    have h12 := hD.2.2.2.2.2.2.2.2.2.2.2.2.1
    have h13 := hD.2.2.2.2.2.2.2.2.2.2.2.2.2.1
    have h14 := hD.2.2.2.2.2.2.2.2.2.2.2.2.2.2.1
    have h15 := hD.2.2.2.2.2.2.2.2.2.2.2.2.2.2.2.1
    clear hD
    generalize hAA : fillL y _ _ = AA at hK ⊢
    simp only [fillL, Act.put, List.setIfInBounds_toArray, List.set_cons_zero, List.set_cons_succ, List.getD_cons_zero, List.getD_cons_succ, IsP] at hAA
    subst hAA
    simp only [List.getD_cons_zero, List.getD_cons_succ, IsP] at hK
    simp only [h0, h1, h2, h3, h4, h5, h6, h7, h8, h9, h10, h11, h12, h13, h14, h15] at hK ⊢
    clear h0 h1 h2 h3 h4 h5 h6 h7 h8 h9 h10 h11 h12 h13 h14 h15
    refine ite_yes (by rfl) ?_
    go_simp
    exact hK _ _ _ rfl (Grew.refl _) rfl
  refine ⟨?_, ?_⟩
  · refine wordP_read 1 2 (by kernel_rfl) (by kernel_rfl) (by kernel_rfl) ?_
    intro y w2 p hlo hhi hW hD K hK
    simp only [depsP, List.getD_cons_zero, List.getD_cons_succ, IsP] at hD
    have h0 := hD.1
    have h1 := hD.2.1
    have h2 := hD.2.2.1
    have h3 := hD.2.2.2.1
    have h4 := hD.2.2.2.2.1
    have h5 := hD.2.2.2.2.2.1
    have h6 := hD.2.2.2.2.2.2.1
    have h7 := hD.2.2.2.2.2.2.2.1
    have h8 := hD.2.2.2.2.2.2.2.2.1
    have h9 := hD.2.2.2.2.2.2.2.2.2.1
    have h10 := hD.2.2.2.2.2.2.2.2.2.2.1
    have h11 := hD.2.2.2.2.2.2.2.2.2.2.2.1
    have h12 := hD.2.2.2.2.2.2.2.2.2.2.2.2.1
    have h13 := hD.2.2.2.2.2.2.2.2.2.2.2.2.2.1
    have h14 := hD.2.2.2.2.2.2.2.2.2.2.2.2.2.2.1
    have h15 := hD.2.2.2.2.2.2.2.2.2.2.2.2.2.2.2.1
    clear hD
    generalize hAA : fillL y _ _ = AA at hK ⊢
    simp only [fillL, Act.put, List.setIfInBounds_toArray, List.set_cons_zero, List.set_cons_succ, List.getD_cons_zero, List.getD_cons_succ, IsP] at hAA
    subst hAA
    simp only [List.getD_cons_zero, List.getD_cons_succ, IsP] at hK
    simp only [h0, h1, h2, h3, h4, h5, h6, h7, h8, h9, h10, h11, h12, h13, h14, h15] at hK ⊢
    clear h0 h1 h2 h3 h4 h5 h6 h7 h8 h9 h10 h11 h12 h13 h14 h15
    refine ite_yes (by rfl) ?_
    go_simp
    exact hK _ _ _ rfl (Grew.refl _) rfl
  refine ⟨?_, ?_⟩
  · refine wordP_read 0 1 (by kernel_rfl) (by kernel_rfl) (by kernel_rfl) ?_
    intro y w2 p hlo hhi hW hD K hK
    clear hD
    generalize hAA : fillL y _ _ = AA at hK ⊢
    simp only [fillL, Act.put, List.setIfInBounds_toArray, List.set_cons_zero, List.set_cons_succ, List.getD_cons_zero, List.getD_cons_succ, IsP] at hAA
    subst hAA
    simp only [List.getD_cons_zero, List.getD_cons_succ, IsP] at hK
    refine ite_yes (by rfl) ?_
    go_simp
    rcases (by omega : p = 0 ∨ p = 1) with rfl | rfl
    · exact hK _ _ _ rfl ((Grew.refl _).alloc _) (show NewV _ _ _ 0 _ _ from ⟨_, rfl, Env.newE hW.1 _⟩)
    · exact hK _ _ _ rfl ((Grew.refl _).alloc _) (show NewV _ _ _ 1 _ _ from ⟨_, rfl, Env.newE hW.1 _⟩)
  refine ⟨?_, ?_⟩
  · refine wordP_write 1 rfl ?_
    intro y w2 hW hD K hK
    simp only [depsP, List.getD_cons_zero, List.getD_cons_succ, IsP] at hD
    have h0 := hD.1
    have h1 := hD.2.1
    have h2 := hD.2.2.1
    have h3 := hD.2.2.2.1
    have h4 := hD.2.2.2.2.1
    have h5 := hD.2.2.2.2.2.1
    have h6 := hD.2.2.2.2.2.2.1
    have h7 := hD.2.2.2.2.2.2.2.1
    have h8 := hD.2.2.2.2.2.2.2.2.1
    have h9 := hD.2.2.2.2.2.2.2.2.2.1
    have h10 := hD.2.2.2.2.2.2.2.2.2.2.1
    have h11 := hD.2.2.2.2.2.2.2.2.2.2.2.1
    have h12 := hD.2.2.2.2.2.2.2.2.2.2.2.2.1
    have h13 := hD.2.2.2.2.2.2.2.2.2.2.2.2.2.1
    have h14 := hD.2.2.2.2.2.2.2.2.2.2.2.2.2.2.1
    have h15 := hD.2.2.2.2.2.2.2.2.2.2.2.2.2.2.2.1
    have h16 := hD.2.2.2.2.2.2.2.2.2.2.2.2.2.2.2.2.1
    have h18 := hD.2.2.2.2.2.2.2.2.2.2.2.2.2.2.2.2.2.1
    clear hD
    generalize hAA : fillL y _ _ = AA at hK ⊢
    simp only [fillL, Act.put, List.setIfInBounds_toArray, List.set_cons_zero, List.set_cons_succ, List.getD_cons_zero, List.getD_cons_succ, IsP] at hAA
    subst hAA
    simp only [List.getD_cons_zero, List.getD_cons_succ, IsP] at hK
    simp only [h0, h1, h2, h3, h4, h5, h6, h7, h8, h9, h10, h11, h12, h13, h14, h15, h16] at hK ⊢
    clear h0 h1 h2 h3 h4 h5 h6 h7 h8 h9 h10 h11 h12 h13 h14 h15 h16
    obtain ⟨nn, e18, hE⟩ := h18
    simp only [e18] at hK ⊢
    have hrow := hE.2.kp List.mem_cons_self
    have f0 := row_frozen hrow 0
    have f1 := row_frozen hrow 1
    have f2 := row_frozen hrow 2
    have c0 := row_cellT hrow 0 _ rfl
    have c1 := row_cellT hrow 1 _ rfl
    have c2 := row_cellT hrow 2 _ rfl
    clear hrow
    refine ite_yes (by rfl) ?_
    go_simp
    have hs := NewE.tell hE (moved3 w2 nn (.int .i64 ty) (.int .i64 wd) (.int .u64 n)) (set3 (hE.2.kp List.mem_cons_self))
    exact hK _ undef _ rfl (fun n' e' _ => by rw [e18] at e'; cases e'; exact hs) ⟨hs.env, fun h => absurd h (by decide)⟩ trivial
  refine ⟨?_, ?_⟩
  · refine wordP_read 2 2 (by kernel_rfl) (by kernel_rfl) (by kernel_rfl) ?_
    intro y w2 p hlo hhi hW hD K hK
    simp only [depsP, List.getD_cons_zero, List.getD_cons_succ, IsP] at hD
    have h0 := hD.1
    have h1 := hD.2.1
    have h2 := hD.2.2.1
    have h3 := hD.2.2.2.1
    have h4 := hD.2.2.2.2.1
    have h5 := hD.2.2.2.2.2.1
    have h6 := hD.2.2.2.2.2.2.1
    have h7 := hD.2.2.2.2.2.2.2.1
    have h8 := hD.2.2.2.2.2.2.2.2.1
    have h9 := hD.2.2.2.2.2.2.2.2.2.1
    have h10 := hD.2.2.2.2.2.2.2.2.2.2.1
    have h11 := hD.2.2.2.2.2.2.2.2.2.2.2.1
    have h12 := hD.2.2.2.2.2.2.2.2.2.2.2.2.1
    have h13 := hD.2.2.2.2.2.2.2.2.2.2.2.2.2.1
    have h14 := hD.2.2.2.2.2.2.2.2.2.2.2.2.2.2.1
    have h15 := hD.2.2.2.2.2.2.2.2.2.2.2.2.2.2.2.1
    have h16 := hD.2.2.2.2.2.2.2.2.2.2.2.2.2.2.2.2.1
    have h17 := hD.2.2.2.2.2.2.2.2.2.2.2.2.2.2.2.2.2.1
    have h18 := hD.2.2.2.2.2.2.2.2.2.2.2.2.2.2.2.2.2.2.1
    clear hD
    generalize hAA : fillL y _ _ = AA at hK ⊢
    simp only [fillL, Act.put, List.setIfInBounds_toArray, List.set_cons_zero, List.set_cons_succ, List.getD_cons_zero, List.getD_cons_succ, IsP] at hAA
    subst hAA
    simp only [List.getD_cons_zero, List.getD_cons_succ, IsP] at hK
    simp only [h0, h1, h2, h3, h4, h5, h6, h7, h8, h9, h10, h11, h12, h13, h14, h15, h16, h17] at hK ⊢
    clear h0 h1 h2 h3 h4 h5 h6 h7 h8 h9 h10 h11 h12 h13 h14 h15 h16 h17
    refine ite_yes (by rfl) ?_
    go_simp
    exact hK _ _ _ rfl (Grew.refl _) rfl
  trivial
theorem wp_appV1 {o : Oper} {a : Act} {K : Act → World → Prop} {Q : Exit → Act → World → Prop} (w : World) (s x : Operand) (ho : o.op = .call { callee := .builtin .append, args := #[s, x], argTypes := #[51, 51] })
    (v : Value) (l : List V3) (hs : a.eval s = v) (hown : OwnVals w 0 v l) (sv : Value) (z : V3) (g : Nat) (hx : a.eval x = sv) (hsv : ValsAt w sv [z]) (hg : sv = .slice (some ⟨g, 0, none⟩) 1 1) (hlen : l.length ≤ 1048577)
    (h : ∀ v' w', OwnVals w' 0 v' (l ++ [z]) → w.grownBy w' v.ownBlock → Next w v.ownBlock v'.ownBlock → K (a.put o.dst v') w') : o.wp Tryz.prog a w K Q := by
  obtain ⟨i0, hi, hz0, hz1, hz2⟩ := val_parts
  subst hg
  obtain ⟨v', w', hr, h2, h3, h4⟩ := append_next (P := Tryz.prog) w 0 51 o.type 92 i0 (.agg #[.int .i64 0, .int .i64 0, .int .u64 0]) 3 24 Tryz.underlying51 hi hz0 hz1 hz2 rfl (by decide) v l.length _ hown ⟨g, 0, none⟩ 1 1 (valCells [z]) (length_valCells [z]) (vals_cells hsv) (valCells_one [z]) (by unfold maxLen; omega) (by omega) (Nat.zero_le _)
  refine Lib.wp_append_run w s x 51 51 ho v _ hs hx v' w' hr (h v' w' ?_ h3 h4)
  unfold OwnVals
  rw [List.length_append, valCells_append]
  exact h2
section
variable {B : Nat} {q : Ptrs} {most flags : Int} {κ κ0 κ1 : Nat → Nat} {x y : BS} {w w' w0 wa : World} {Kp : List (Nat × Obj)}
def ApW (wa : World) (vv : Value) (P2 : World → Prop) : Nat → World → Prop
  | 0, w => Grew wa w
  | 1, w => Moved (fun k => some k = vv.ownBlock) wa w
  | _ + 2, w => P2 w
theorem ApW.grew {vv : Value} {P2 : World → Prop} (h2 : ∀ w w', Grew w w' → P2 w → P2 w') : ∀ (p : Nat) (w w' : World), Grew w w' → ApW wa vv P2 p w → ApW wa vv P2 p w'
  | 0, _, _, hg, h => Grew.trans h hg
  | 1, _, _, hg, h => Moved.trans h (Moved.of_grew (S := fun _ => False) hg) (fun _ _ e => e.elim)
  | _ + 2, _, _, hg, h => h2 _ _ hg h
theorem ApW.old {vv : Value} {P2 : World → Prop} {p : Nat} (h : ApW wa vv P2 p w) (hp : p ≤ 1) {k : Nat} {o : Obj} (ho : wa.heap[k]? = some o) (hne : ¬ some k = vv.ownBlock) : w.heap[k]? = some o := by
  match p, h, hp with
  | 0, h, _ => exact Grew.heap h ho
  | 1, h, _ => exact Moved.heap h ho hne
def ApF (wa : World) (vv : Value) (L' : List V3) : Nat → Value → World → Prop
  | 0, _, _ => False
  | 1, v, w => OwnVals w 0 v L' ∧ Next wa vv.ownBlock v.ownBlock
  | _ + 2, _, _ => True
theorem ApF.st {vv : Value} {L' : List V3} : (∀ p v w w', (fun (_ : Nat) w w' => Grew w w') p w w' → ApF wa vv L' p v w → ApF wa vv L' p v w') ∧ ∀ p v w w', (fun _ _ _ => True : Nat → World → World → Prop) p w w' → ApF wa vv L' p v w → ApF wa vv L' (p + 1) v w' := by
  refine ⟨fun p v w w' hg h => ?_, fun p v w w' _ h => ?_⟩
  · match p, h with
    | 1, h => exact ⟨own_grew h.1 hg, h.2⟩
    | _ + 2, _ => trivial
  · match p, h with
    | 1, _ => trivial
    | _ + 2, _ => trivial
theorem Bd.setVals {vv v' : Value} {L' : List V3} (h : Bd B q most flags κ x wa) (hr : wa.heap[q.p]? = some (rowB q flags vv x.e)) (hm : Moved (fun k => some k = vv.ownBlock) wa w) (ho : OwnVals w 0 v' L') (hn : Next wa vv.ownBlock v'.ownBlock) (hl : L'.length ≤ 1048577) (hok : ∀ u ∈ L', okV u) :
    TurnX B q most flags κ { x with vals := L' } wa (w.setCell ⟨q.p, 8, none⟩ v') := by
  obtain ⟨h0, v2, h1, h2, h3⟩ := h.self
  have e : v2 = vv := by
    rw [hr] at h1
    injection h1 with h1
    injection h1 with h1
    exact (Option.some.inj (by exact congrArg (fun a : Array Value => a[8]?) h1)).symm
  subst e
  have hne : ¬ some q.p = v2.ownBlock := fun e => owns_ne h2 hr (by decide) e.symm
  have hrw : w.heap[q.p]? = some (rowB q flags v2 x.e) := hm.heap hr hne
  have hm2 : Moved (fun k => k = q.p) w (w.setCell ⟨q.p, 8, none⟩ v') := moved_at w q.p 8 _
  have hM : Moved (fun k => κ k = 1) wa (w.setCell ⟨q.p, 8, none⟩ v') := (hm.mono (fun j _ hj => h3 j hj.symm)).trans hm2 (fun j _ hj => by show κ j = 1; rw [hj]; exact h0)
  refine h.self_step (S' := fun k => κ k = 1 ∨ v'.ownBlock = some k) hl hok ⟨.inl h0, v', ?_, hm2.owns ho (fun k hk e => owns_ne ho hrw (by decide) (by rw [hk, e])), fun g hg => .inr hg⟩ (fun k hk => ?_) hM
  · have := heap_setCell_same w q.p 8 _ _ v' hrw
    simpa using this
  · rcases hk with hk | hk
    · exact .inl hk
    · rcases hn k hk with e | e
      · exact .inl (h3 k e)
      · exact .inr ⟨e, Nat.lt_of_lt_of_le (owns_lt ho hk) hm2.size⟩
theorem Env.setVals {vv v' : Value} {L' : List V3} (h : Env B q most flags w0 κ0 Kp x wa) (hr : wa.heap[q.p]? = some (rowB q flags vv x.e)) (hm : Moved (fun k => some k = vv.ownBlock) wa w) (ho : OwnVals w 0 v' L') (hn : Next wa vv.ownBlock v'.ownBlock) (hl : L'.length ≤ 1048577) (hok : ∀ u ∈ L', okV u) :
    Env B q most flags w0 κ0 Kp { x with vals := L' } (w.setCell ⟨q.p, 8, none⟩ v') := h.after fun κ hb _ => hb.setVals hr hm ho hn hl hok
theorem Env.mono {Kp' : List (Nat × Obj)} (h : Env B q most flags w0 κ0 Kp' x w) (hs : ∀ z ∈ Kp, z ∈ Kp') : Env B q most flags w0 κ0 Kp x w := by
  obtain ⟨κ, h1, h2, h3⟩ := h
  exact ⟨κ, h1, h2, fun z hz => h3 z (hs z hz)⟩
theorem Env.mkeys {lv : Value} {l : List V3} (h : Env B q most flags w0 κ0 Kp x w) (hv : ValsAt w0 lv l) (ha : Apart0 κ0 w0 lv) (hlen : l.length ≤ 1048576) (hok : ∀ v ∈ l, okV v) (hs : x.s.2 = 0) :
    Calls Tryz.prog 166 #[bptr q.b, lv] w fun r w' => r = .returned (putV (vputF most 4 0 l x.s).1) ∧ AllE B q most flags w0 κ0 x { x with s := (vputF most 4 0 l x.s).2 } w w' := by
  have HE : Hid (Env B q most flags w0 κ0 ((w.heap.size, .cells #[.int .i64 0, .int .i64 0, .int .u64 0] 92 (0, 0)) :: Kp) x (w.alloc (.cells #[.int .i64 0, .int .i64 0, .int .u64 0] 92))) := h.add _
  have HC := Lib.hid (HE.out.vput (elem := 4) (many := 0) (.inr (.inl ⟨by decide, rfl, by kernel_rfl⟩)) hv ha hlen hok hs)
  obtain ⟨a, c, rfl, _⟩ := hv
  clear h ha hlen hok hs
  generalize vputF most 4 0 l x.s = PP at *
  obtain ⟨⟨⟨ty, wd, n⟩, ee⟩, s1⟩ := PP
  go_enter Tryz.func166, Tryz.ntmps166
  go_wp2_with fail
  refine HC.out.mono ?_
  rintro r w2 ⟨rfl, hA⟩
  have HA := Lib.hid hA
  have hrow := (hA _ HE.out).kp List.mem_cons_self
  have f0 := row_frozen hrow 0
  have f1 := row_frozen hrow 1
  have f2 := row_frozen hrow 2
  have c0 := row_cellT hrow 0 _ rfl
  have c1 := row_cellT hrow 1 _ rfl
  have c2 := row_cellT hrow 2 _ rfl
  have HR := Lib.hid hrow
  clear hA hrow
  rw [show putV ((ty, wd, n), ee) = .tuple #[.agg #[.int .i64 ty, .int .i64 wd, .int .u64 n], .int .i64 ee] from rfl]
  go_wp2_with fail
  refine bodyPost_ret (v := .tuple #[.agg #[.int .i64 ty, .int .i64 wd, .int .u64 n], .int .i64 ee]) (by simp [results, Tryz.results166, go_sem, c0, c1, c2]) rfl ⟨rfl, fun Kp' hE => ?_⟩
  exact (NewE.tell (NewE.all HA.out _ (hE.newE (.cells #[.int .i64 0, .int .i64 0, .int .u64 0] 92 (0, 0)))) (moved3 w2 w.heap.size (.int .i64 ty) (.int .i64 wd) (.int .u64 n)) (set3 HR.out)).env
end
set_option maxRecDepth 100000 in
set_option maxHeartbeats 8000000 in
theorem table_any {B : Nat} {q : Ptrs} {most flags : Int} {κ : Nat → Nat} {x : BS} {w : World} (list : ByteArray) (ka : Option Addr) (kc : Nat) (keys : List V3) (va : Option Addr) (vc : Nat) (vals : List V3) (hk : ValsAt w (.slice ka keys.length kc) keys) (hka : Apart0 κ w (.slice ka keys.length kc)) (hv : ValsAt w (.slice va vals.length vc) vals) (hva : Apart0 κ w (.slice va vals.length vc)) (hnil : ∀ c, Value.slice va vals.length vc = .slice none 0 c → c = 0) (hkl : keys.length ≤ 1048575) (hvl : vals.length ≤ 1048575) (hko : ∀ v ∈ keys, okV v) (hvo : ∀ v ∈ vals, okV v) (hg : x.Good) (hx : x.e = 0) (h : Bd B q most flags κ x w) : Calls Tryz.prog 106 #[bptr q.p, .string list, .slice ka keys.length kc, .slice va vals.length vc] w fun r w' => r = .returned (.tuple #[]) ∧ TurnX B q most flags κ (x.table most (onF flags 4) list keys vals) w w' := by
  have HE : Hid (Env B q most flags w κ [(w.heap.size + 1, Obj.cells #[.slice va vals.length vc] 51 (0, 0)), (w.heap.size, Obj.cells #[bptr q.p] 23 (0, 0))] x ((w.alloc (.cells #[bptr q.p] 23)).alloc (.cells #[.slice va vals.length vc] 51))) := by
    have hh := ((Env.start h).add (.cells #[bptr q.p] 23)).add (.cells #[.slice va vals.length vc] 51)
    simp only [World.size_alloc, Nat.add_assoc, Nat.reduceAdd] at hh
    exact hh
  have HM1 : Hid ((w.heap.size, Obj.cells #[bptr q.p] 23 (0, 0)) ∈ ([(w.heap.size + 1, Obj.cells #[.slice va vals.length vc] 51 (0, 0)), (w.heap.size, Obj.cells #[bptr q.p] 23 (0, 0))] : List (Nat × Obj))) := List.mem_cons_of_mem _ List.mem_cons_self
  have HM2 : Hid ((w.heap.size + 1, Obj.cells #[.slice va vals.length vc] 51 (0, 0)) ∈ ([(w.heap.size + 1, Obj.cells #[.slice va vals.length vc] 51 (0, 0)), (w.heap.size, Obj.cells #[bptr q.p] 23 (0, 0))] : List (Nat × Obj))) := List.mem_cons_self
  have HTE := Lib.hid (BS.table_eq most (onF flags 4) list keys vals x)
  have HMK : Hid (∀ Kp w2, Env B q most flags w κ Kp x w2 → Calls Tryz.prog 166 #[bptr q.b, .slice ka keys.length kc] w2 fun r w' => r = .returned (putV (vputF most 4 0 keys x.s).1) ∧ AllE B q most flags w κ x { x with s := (vputF most 4 0 keys x.s).2 } w2 w') := fun Kp w2 h => h.mkeys hk hka (by omega) hko (hg.s0 hx)
  have HNG := Lib.hid (hg.newList (most := most) (list := list) (keys := keys) hx)
  have HOKN : Hid (okV (vputF most 4 0 keys x.s).1.1) := vputF_okV h.ok.len h.ok.m1
  generalize vputF most 4 0 keys x.s = PP at HTE HMK HNG HOKN
  obtain ⟨⟨⟨ty, wd, n⟩, ee⟩, s1⟩ := PP
  have HIX : Hid ((getP x.lists list).2 = true → ∃ i : Nat, (getP x.lists list).1 = i ∧ i < x.vals.length) := fun hb => by
    unfold getP at hb ⊢
    split at hb
    · rename_i hh
      rw [if_pos hh]
      have hlt := hasP_lt hh
      have h1 := hg.ix hx _ (List.getElem_mem hlt)
      have e : (atsP x.lists).getD (placeP x.lists list) 0 = (x.lists[placeP x.lists list]).2 := by simp [atsP, List.getD_eq_getElem?_getD, hlt]
      dsimp only
      rw [e]
      exact ⟨_, (Int.toNat_of_nonneg h1.1).symm, by omega⟩
    · cases hb
  have HLS : Hid (x.lists.length ≤ 1048576) := Nat.le_trans (hg.ls hx) HE.out.len
  have HVS : Hid (x.vals.length ≤ 1048576) := Nat.le_trans (hg.vs hx) HE.out.len
  have HOL : Hid (∀ u ∈ x.vals, okV u) := h.ok.okL
  have HT1 : Hid (∀ (y : BS) (i : Nat) (κ1 : Nat → Nat) (w2 : World) (n1 n2 n3 : Nat), y.Good → y.e = 0 → i < y.vals.length → Tn κ κ1 w w2 → Env B q most flags w2 κ1 [(n3, Obj.cells #[.slice va vals.length vc] 51 (0, 0)), (n2, Obj.cells #[.int .i64 i] 3 (0, 0)), (n1, Obj.cells #[bptr q.p] 23 (0, 0))] y w2 → Calls Tryz.prog 167 #[.pointer (some ⟨n1, 0, none⟩), .pointer (some ⟨n2, 0, none⟩), .pointer (some ⟨n3, 0, none⟩)] w2 fun r w' => r = .returned (.tuple #[]) ∧ TurnX B q most flags κ1 (y.tableEnd most i vals) w2 w') := fun y i κ1 w2 n1 n2 n3 g1 g2 g3 ht g4 => table1_any n1 n2 n3 i _ vals (vals_tn hv hva ht) (hva.tn ht) hnil hvl hvo g3 g1 g2 g4
  have HX := Lib.hid hx
  have HG := Lib.hid hg
  clear h hk hka hv hva hnil hko hvo hg hkl hvl hx
  have cb := Env.cell HE.out HM1.out 0 _ rfl
  have c6 := HE.out.at6
  go_enter Tryz.func106, Tryz.ntmps106
  go_wp2_with fail
  generalize (w.alloc (.cells #[bptr q.p] 23)).alloc (.cells #[.slice va vals.length vc] 51) = w1 at *
  refine (HE.out.listsGet list).mono ?_
  rintro r w2 ⟨rfl, hg2⟩
  have HE1 := Lib.hid (HE.out.grew hg2)
  clear hg2 cb c6
  have HSZ : Hid (w.heap.size < w2.heap.size ∧ w.heap.size + 1 < w2.heap.size) := ⟨(Array.getElem?_eq_some_iff.1 (HE1.out.kp HM1.out)).1, (Array.getElem?_eq_some_iff.1 (HE1.out.kp HM2.out)).1⟩
  generalize getP x.lists list = g at *
  obtain ⟨ga, gb⟩ := g
  have HB1 := Lib.hid (HE1.out.add (.cells #[.int .i64 ga] 3))
  have cb1 := Env.cell HB1.out (List.mem_cons_of_mem _ HM1.out) 0 _ rfl
  have cl1 := Env.cell HB1.out (List.mem_cons_of_mem _ HM2.out) 0 _ rfl
  cases gb with
  | false =>
    have c0 := HB1.out.at0
    go_wp2_with fail
    skip
    refine (HMK.out _ _ HB1.out).mono ?_
    rintro r w4 ⟨rfl, hA⟩
    have HE3 := Lib.hid (hA _ HB1.out)
    rw [show putV ((ty, wd, n), ee) = .tuple #[.agg #[.int .i64 ty, .int .i64 wd, .int .u64 n], .int .i64 ee] from rfl]
    clear hA c0 cb1 cl1
    have HB4 := Lib.hid (HE3.out.add (.cells #[.int .i64 ty, .int .i64 wd, .int .u64 n] 92))
    have cb4 := Env.cell HB4.out (List.mem_cons_of_mem _ (List.mem_cons_of_mem _ HM1.out)) 0 _ rfl
    have HS4 : Hid (w2.heap.size < w4.heap.size ∧ w.heap.size < w4.heap.size ∧ w.heap.size + 1 < w4.heap.size) := ⟨(Array.getElem?_eq_some_iff.1 (HE3.out.kp List.mem_cons_self)).1, (Array.getElem?_eq_some_iff.1 (HE3.out.kp (List.mem_cons_of_mem _ HM1.out))).1, (Array.getElem?_eq_some_iff.1 (HE3.out.kp (List.mem_cons_of_mem _ HM2.out))).1⟩
    go_wp2_with fail
    generalize (w4.alloc (.cells #[.int .i64 ty, .int .i64 wd, .int .u64 n] 92)) = w5 at *
    refine (HB4.out.call fun κ1 hb hz => pfail_any ee hb).mono ?_
    rintro r w6 ⟨rfl, he⟩
    have HE5 := Lib.hid he
    clear he cb4
    obtain ⟨va6, vc6, hrow6, hown6⟩ := HE5.out.row8
    have c86 : w6.cell? ⟨q.p, 8, none⟩ = some (.slice va6 x.vals.length vc6) := row_cellT hrow6 8 _ rfl
    clear hrow6 hown6
    have cb5 := Env.cell HE5.out (List.mem_cons_of_mem _ (List.mem_cons_of_mem _ HM1.out)) 0 _ rfl
    have hri := HE5.out.kp (List.mem_cons_of_mem _ List.mem_cons_self)
    have fi := row_frozen hri 0
    have ci := row_cellT hri 0 _ rfl
    have HE6 : Hid (Env B q most flags w κ ((w2.heap.size, Obj.cells #[.int .i64 x.vals.length] 3 (0, 0)) :: (w4.heap.size, Obj.cells #[.int .i64 ty, .int .i64 wd, .int .u64 n] 92 (0, 0)) :: [(w.heap.size + 1, Obj.cells #[.slice va vals.length vc] 51 (0, 0)), (w.heap.size, Obj.cells #[bptr q.p] 23 (0, 0))]) (({ x with s := s1 } : BS).fail ee) (w6.setCell ⟨w2.heap.size, 0, none⟩ (.int .i64 x.vals.length))) := by
      have ho := heap_setCell_same w6 w2.heap.size 0 _ _ (.int .i64 x.vals.length) hri
      refine (NewE.tell (o := .cells #[.int .i64 ga] 3 (0, 0)) ⟨⟨by have := HSZ.out.1; omega, fun z hz e => ?_⟩, HE5.out.mono (fun z hz => ?_)⟩ (moved_at w6 w2.heap.size 0 _) (by simpa using ho)).2
      · simp only [List.mem_cons, List.not_mem_nil, or_false] at hz
        have h1 := HSZ.out
        have h2 := HS4.out
        rcases hz with rfl | rfl | rfl <;> dsimp only at e <;> omega
      · simp only [List.mem_cons, List.not_mem_nil, or_false] at hz ⊢
        rcases hz with rfl | rfl | rfl | rfl <;> simp
    have HN1 : Hid ((w.heap.size, Obj.cells #[bptr q.p] 23 (0, 0)) ∈ (((w2.heap.size, Obj.cells #[.int .i64 x.vals.length] 3 (0, 0)) :: (w4.heap.size, Obj.cells #[.int .i64 ty, .int .i64 wd, .int .u64 n] 92 (0, 0)) :: [(w.heap.size + 1, Obj.cells #[.slice va vals.length vc] 51 (0, 0)), (w.heap.size, Obj.cells #[bptr q.p] 23 (0, 0))]) : List (Nat × Obj))) := List.mem_cons_of_mem _ (List.mem_cons_of_mem _ HM1.out)
    have HN3 : Hid ((w4.heap.size, Obj.cells #[.int .i64 ty, .int .i64 wd, .int .u64 n] 92 (0, 0)) ∈ (((w2.heap.size, Obj.cells #[.int .i64 x.vals.length] 3 (0, 0)) :: (w4.heap.size, Obj.cells #[.int .i64 ty, .int .i64 wd, .int .u64 n] 92 (0, 0)) :: [(w.heap.size + 1, Obj.cells #[.slice va vals.length vc] 51 (0, 0)), (w.heap.size, Obj.cells #[bptr q.p] 23 (0, 0))]) : List (Nat × Obj))) := List.mem_cons_of_mem _ List.mem_cons_self
    clear hri
    go_wp2_with fail
    generalize (w6.setCell ⟨w2.heap.size, 0, none⟩ (.int .i64 x.vals.length)) = w7 at *
    clear c86 cb5 fi ci
    refine wp_region_phases [7] (EnvW B q most flags w κ ((w2.heap.size, Obj.cells #[.int .i64 x.vals.length] 3 (0, 0)) :: (w4.heap.size, Obj.cells #[.int .i64 ty, .int .i64 wd, .int .u64 n] 92 (0, 0)) :: [(w.heap.size + 1, Obj.cells #[.slice va vals.length vc] 51 (0, 0)), (w.heap.size, Obj.cells #[bptr q.p] 23 (0, 0))]) [({ x with s := s1 } : BS).fail ee] ({ ({ x with s := s1 } : BS).fail ee with lists := putP list x.vals.length x.lists })) (fun _ w w' => Grew w w') ((fun p (_ : Nat → Value) => (fun _ _ _ => True) p)) [[], [0], [0, 1], [0, 1, 2], [0, 1, 2, 3], [], [], [0, 1, 2, 3, 4, 5, 6]] [[(57, 5), (58, 6)], [(52, 0), (57, 5), (58, 6)], [(52, 0), (53, 1), (57, 5), (58, 6)], [(52, 0), (53, 1), (54, 2), (57, 5), (58, 6)], [(52, 0), (53, 1), (54, 2), (55, 3), (57, 5), (58, 6)], [(52, 0), (53, 1), (54, 2), (55, 3), (56, 4), (58, 6)], [(52, 0), (53, 1), (54, 2), (55, 3), (56, 4), (57, 5)], [(52, 0), (53, 1), (54, 2), (55, 3), (56, 4), (57, 5), (58, 6)]] [(52, 0), (53, 1), (54, 2), (55, 3), (56, 4), (57, 5), (58, 6), (59, 7)]
      [IsP (bptr q.p), IsP (bptr q.p), IsP (.pointer (some ⟨q.p, 3, none⟩)), IsP (.pointer (some ⟨q.p, 6, none⟩)), IsP (bptr q.l), IsP (.string list), IsP (.int .i64 x.vals.length), IsP (.int .i64 (putE15 list x.vals.length x.lists))]
      (by kernel_rfl) (EnvW.grew) (HE6.out.grew (Grew.refl _).drew) (by kernel_rfl) (by kernel_rfl) ⟨isP_st, isP_st, isP_st, isP_st, isP_st, isP_st, isP_st, isP_st, trivial⟩ rfl ?_ ?_
    · intro y wr6 hW hF
      simp only [factsP, IsP, Nat.reduceAdd, List.length_cons, List.length_nil] at hF hW
      have h0 := hF.1
      have h1 := hF.2.1
      have h2 := hF.2.2.1
      have h3 := hF.2.2.2.1
      have h4 := hF.2.2.2.2.1
      have h5 := hF.2.2.2.2.2.1
      have h6 := hF.2.2.2.2.2.2.1
      have h7 := hF.2.2.2.2.2.2.2.1
      clear hF
      simp only [fillL, Act.put, List.setIfInBounds_toArray, List.set_cons_zero, List.set_cons_succ, List.getD_cons_zero, List.getD_cons_succ]
      simp only [h0, h1, h2, h3, h4, h5, h6, h7]
      clear h0 h1 h2 h3 h4 h5 h6 h7
      have HE7 : Hid (Env B q most flags w κ ((w2.heap.size, Obj.cells #[.int .i64 x.vals.length] 3 (0, 0)) :: (w4.heap.size, Obj.cells #[.int .i64 ty, .int .i64 wd, .int .u64 n] 92 (0, 0)) :: [(w.heap.size + 1, Obj.cells #[.slice va vals.length vc] 51 (0, 0)), (w.heap.size, Obj.cells #[bptr q.p] 23 (0, 0))]) ({ ({ x with s := s1 } : BS).fail ee with lists := putP list x.vals.length x.lists }) wr6) := hW
      have HLV : Hid ((x.vals ++ [(ty, wd, n)]).length ≤ 1048577) := by show _ ≤ _; rw [List.length_append]; have := HVS.out; simp; omega
      have HOV : Hid (∀ u ∈ x.vals ++ [((ty, wd, n) : V3)], okV u) := by
        intro u hu
        rcases List.mem_append.1 hu with hu | hu
        · exact HOL.out u hu
        · simp at hu; subst hu; exact HOKN.out
      obtain ⟨va8, vc8, hrow8, hown8⟩ := HE7.out.row8
      have HR8 := Lib.hid hrow8
      have HO8 : Hid (OwnVals wr6 0 (.slice va8 x.vals.length vc8) x.vals) := hown8
      have c8 : wr6.cell? ⟨q.p, 8, none⟩ = some (.slice va8 x.vals.length vc8) := row_cellT hrow8 8 _ rfl
      clear hrow8 hown8
      go_wp2_with fail
      refine wp_region_phases [8, 12] (ApW wr6 (.slice va8 x.vals.length vc8) (fun w' => Env B q most flags w κ ((w2.heap.size, Obj.cells #[.int .i64 x.vals.length] 3 (0, 0)) :: (w4.heap.size, Obj.cells #[.int .i64 ty, .int .i64 wd, .int .u64 n] 92 (0, 0)) :: [(w.heap.size + 1, Obj.cells #[.slice va vals.length vc] 51 (0, 0)), (w.heap.size, Obj.cells #[bptr q.p] 23 (0, 0))]) ({ ({ ({ x with s := s1 } : BS).fail ee with lists := putP list x.vals.length x.lists } : BS) with vals := x.vals ++ [(ty, wd, n)] }) w')) (fun _ w w' => Grew w w') ((fun p (_ : Nat → Value) => (fun _ _ _ => True) p)) [[], [], [1], [1, 2], [1, 2, 3], [1, 2, 3, 4], [], [6], [1, 2, 3, 4, 5, 6, 7], [0, 1, 2, 3, 4, 5, 6, 7, 8], [0, 1, 2, 3, 4, 5, 6, 7, 8, 9], [0, 1, 2, 3, 4, 5, 6, 7, 8, 9, 10], [0, 1, 2, 3, 4, 5, 6, 7, 8, 9, 10, 11]] [[(61, 1), (62, 2), (63, 3), (64, 4), (65, 5), (66, 6), (67, 7), (68, 8)], [(60, 0), (66, 6), (67, 7)], [(60, 0), (61, 1), (66, 6), (67, 7)], [(60, 0), (61, 1), (62, 2), (66, 6), (67, 7)], [(60, 0), (61, 1), (62, 2), (63, 3), (66, 6), (67, 7)], [(60, 0), (61, 1), (62, 2), (63, 3), (64, 4), (66, 6), (67, 7)], [(60, 0), (61, 1), (62, 2), (63, 3), (64, 4), (65, 5)], [(60, 0), (61, 1), (62, 2), (63, 3), (64, 4), (65, 5), (66, 6)], [(60, 0), (61, 1), (62, 2), (63, 3), (64, 4), (65, 5), (66, 6), (67, 7)], [(60, 0), (61, 1), (62, 2), (63, 3), (64, 4), (65, 5), (66, 6), (67, 7), (68, 8)], [(60, 0), (61, 1), (62, 2), (63, 3), (64, 4), (65, 5), (66, 6), (67, 7), (68, 8), (69, 9)], [(60, 0), (61, 1), (62, 2), (63, 3), (64, 4), (65, 5), (66, 6), (67, 7), (68, 8), (69, 9), (70, 10)], [(60, 0), (61, 1), (62, 2), (63, 3), (64, 4), (65, 5), (66, 6), (67, 7), (68, 8), (69, 9), (70, 10), (71, 11)]] [(60, 0), (61, 1), (62, 2), (63, 3), (64, 4), (65, 5), (66, 6), (67, 7), (68, 8), (69, 9), (70, 10), (71, 11)]
        [IsP (bptr q.p), IsP (bptr q.p), IsP (bptr q.p), IsP (.pointer (some ⟨q.p, 3, none⟩)), IsP (.pointer (some ⟨q.p, 8, none⟩)), IsP (.slice va8 x.vals.length vc8), IsP (.agg #[.int .i64 ty, .int .i64 wd, .int .u64 n]), TillP 0 (fun v w => (∃ g, v = .slice (some ⟨g, 0, none⟩) 1 1) ∧ ValsAt w v [(ty, wd, n)]), ApF wr6 (.slice va8 x.vals.length vc8) (x.vals ++ [(ty, wd, n)]), IsP (bptr q.p), IsP (.pointer (some ⟨q.p, 3, none⟩)), IsP (.pointer (some ⟨q.p, 8, none⟩)), fun _ _ _ => True]
        (by kernel_rfl) (ApW.grew (fun w1 w2 hg h => Env.grew h hg)) ((Grew.refl _).drew) (by kernel_rfl) (by kernel_rfl) ⟨isP_st, isP_st, isP_st, isP_st, isP_st, isP_st, isP_st, stOld (TillP.st (fun v w w' hg h => ⟨h.1, h.2.grew hg⟩)), stOld (ApF.st), isP_st, isP_st, isP_st, ⟨fun _ _ _ _ _ h => h, fun _ _ _ _ _ h => h⟩, trivial⟩ rfl ?_ ?_
      · intro y w5 hW hF
        simp only [factsP, IsP, Nat.reduceAdd, List.length_cons, List.length_nil] at hF hW
        have h0 := hF.1
        have h1 := hF.2.1
        have h2 := hF.2.2.1
        have h3 := hF.2.2.2.1
        have h4 := hF.2.2.2.2.1
        have h5 := hF.2.2.2.2.2.1
        have h6 := hF.2.2.2.2.2.2.1
        have h7 := hF.2.2.2.2.2.2.2.1
        have h8 := hF.2.2.2.2.2.2.2.2.1
        have h9 := hF.2.2.2.2.2.2.2.2.2.1
        have h10 := hF.2.2.2.2.2.2.2.2.2.2.1
        have h11 := hF.2.2.2.2.2.2.2.2.2.2.2.1
        clear hF
        simp only [fillL, Act.put, List.setIfInBounds_toArray, List.set_cons_zero, List.set_cons_succ, List.getD_cons_zero, List.getD_cons_succ]
        simp only [h0, h1, h2, h3, h4, h5, h6, h9, h10, h11]
        clear h0 h1 h2 h3 h4 h5 h6 h9 h10 h11
        have HE8 : Hid (Env B q most flags w κ ((w2.heap.size, Obj.cells #[.int .i64 x.vals.length] 3 (0, 0)) :: (w4.heap.size, Obj.cells #[.int .i64 ty, .int .i64 wd, .int .u64 n] 92 (0, 0)) :: [(w.heap.size + 1, Obj.cells #[.slice va vals.length vc] 51 (0, 0)), (w.heap.size, Obj.cells #[bptr q.p] 23 (0, 0))]) (({ x with s := s1, e := failS x.e ee, lists := putP list x.vals.length x.lists, vals := x.vals ++ [(ty, wd, n)] } : BS)) w5) := hW
        clear hW h7 h8
        have cb8 := Env.cell HE8.out HN1.out 0 _ rfl
        go_wp2_with fail
        have HT : Hid (∀ κ1 wz, Tn κ κ1 w wz → Env B q most flags wz κ1 (((w2.heap.size, Obj.cells #[.int .i64 x.vals.length] 3 (0, 0)) :: (w4.heap.size, Obj.cells #[.int .i64 ty, .int .i64 wd, .int .u64 n] 92 (0, 0)) :: [(w.heap.size + 1, Obj.cells #[.slice va vals.length vc] 51 (0, 0)), (w.heap.size, Obj.cells #[bptr q.p] 23 (0, 0))])) (({ x with s := s1, e := failS x.e ee, lists := putP list x.vals.length x.lists, vals := x.vals ++ [(ty, wd, n)] } : BS)) wz → (({ x with s := s1, e := failS x.e ee, lists := putP list x.vals.length x.lists, vals := x.vals ++ [(ty, wd, n)] } : BS)).e = 0 → Calls Tryz.prog 167 #[.pointer (some ⟨w.heap.size, 0, none⟩), .pointer (some ⟨w2.heap.size, 0, none⟩), .pointer (some ⟨w.heap.size + 1, 0, none⟩)] wz fun r w' => r = .returned (.tuple #[]) ∧ TurnX B q most flags κ1 ((({ x with s := s1, e := failS x.e ee, lists := putP list x.vals.length x.lists, vals := x.vals ++ [(ty, wd, n)] } : BS)).tableEnd most x.vals.length vals) wz w') := fun κ1 wz ht he he0 => HT1.out _ (x.vals.length) κ1 wz _ _ _ HNG.out he0 (by show _ < (x.vals ++ [(ty, wd, n)]).length; rw [List.length_append]; simp) ht (he.mono (fun z hz => by simp only [List.mem_cons, List.not_mem_nil, or_false] at hz ⊢; rcases hz with rfl | rfl | rfl <;> simp))
        refine (HE8.out.callT fun κ1 hb ht he => unless_any hb _ _ ((({ x with s := s1, e := failS x.e ee, lists := putP list x.vals.length x.lists, vals := x.vals ++ [(ty, wd, n)] } : BS)).tableEnd most x.vals.length vals) (fun hne => by unfold BS.tableEnd; rw [if_neg hne]) (fun _ => enters_of Tryz.func167 (by kernel_rfl) rfl _ _) (fun he0 => HT.out κ1 _ ht he he0)).mono ?_
        rintro r w9 ⟨rfl, he⟩
        have HF := Lib.hid he
        clear he
        go_wp2
        go_end0
        exact ⟨rfl, by rw [HTE.out.trans (if_neg (by simp))]; exact HF.out.turn⟩
      refine ⟨?_, ?_⟩
      · refine wordP_read 0 1 (by kernel_rfl) (by kernel_rfl) (by kernel_rfl) ?_
        intro y w5 p hlo hhi hW hD K hK
        have dq := row_cellT (ApW.old hW hhi (HE7.out.kp HN1.out) (fun e => owns_ne HO8.out (HE7.out.kp HN1.out) (by decide) e.symm)) 0 _ rfl
        clear hD
        generalize hAA : fillL y _ _ = AA at hK ⊢
        simp only [fillL, Act.put, List.setIfInBounds_toArray, List.set_cons_zero, List.set_cons_succ, List.getD_cons_zero, List.getD_cons_succ, IsP] at hAA
        subst hAA
        simp only [List.getD_cons_zero, List.getD_cons_succ, IsP] at hK
        refine ite_yes (by rfl) ?_
        go_simp
        exact hK _ _ _ rfl (Grew.refl _) rfl
      refine ⟨?_, ?_⟩
      · refine wordP_read 0 0 (by kernel_rfl) (by kernel_rfl) (by kernel_rfl) ?_
        intro y w5 p hlo hhi hW hD K hK
        obtain rfl : p = 0 := by omega
        have dq := Env.cell ((HE7.out).grew (show Grew wr6 w5 from hW)) HN1.out 0 _ rfl
        clear hD
        generalize hAA : fillL y _ _ = AA at hK ⊢
        simp only [fillL, Act.put, List.setIfInBounds_toArray, List.set_cons_zero, List.set_cons_succ, List.getD_cons_zero, List.getD_cons_succ, IsP] at hAA
        subst hAA
        simp only [List.getD_cons_zero, List.getD_cons_succ, IsP] at hK
        refine ite_yes (by rfl) ?_
        go_simp
        exact hK _ _ _ rfl (Grew.refl _) rfl
      refine ⟨?_, ?_⟩
      · refine wordP_read 0 0 (by kernel_rfl) (by kernel_rfl) (by kernel_rfl) ?_
        intro y w5 p hlo hhi hW hD K hK
        simp only [depsP, List.getD_cons_zero, List.getD_cons_succ, IsP] at hD
        have h1 := hD.1
        clear hD
        generalize hAA : fillL y _ _ = AA at hK ⊢
        simp only [fillL, Act.put, List.setIfInBounds_toArray, List.set_cons_zero, List.set_cons_succ, List.getD_cons_zero, List.getD_cons_succ, IsP] at hAA
        subst hAA
        simp only [List.getD_cons_zero, List.getD_cons_succ, IsP] at hK
        simp only [h1] at hK ⊢
        clear h1
        refine ite_yes (by rfl) ?_
        go_simp
        exact hK _ _ _ rfl (Grew.refl _) rfl
      refine ⟨?_, ?_⟩
      · refine wordP_read 0 0 (by kernel_rfl) (by kernel_rfl) (by kernel_rfl) ?_
        intro y w5 p hlo hhi hW hD K hK
        simp only [depsP, List.getD_cons_zero, List.getD_cons_succ, IsP] at hD
        have h1 := hD.1
        have h2 := hD.2.1
        clear hD
        generalize hAA : fillL y _ _ = AA at hK ⊢
        simp only [fillL, Act.put, List.setIfInBounds_toArray, List.set_cons_zero, List.set_cons_succ, List.getD_cons_zero, List.getD_cons_succ, IsP] at hAA
        subst hAA
        simp only [List.getD_cons_zero, List.getD_cons_succ, IsP] at hK
        simp only [h1, h2] at hK ⊢
        clear h1 h2
        refine ite_yes (by rfl) ?_
        go_simp
        exact hK _ _ _ rfl (Grew.refl _) rfl
      refine ⟨?_, ?_⟩
      · refine wordP_read 0 0 (by kernel_rfl) (by kernel_rfl) (by kernel_rfl) ?_
        intro y w5 p hlo hhi hW hD K hK
        simp only [depsP, List.getD_cons_zero, List.getD_cons_succ, IsP] at hD
        have h1 := hD.1
        have h2 := hD.2.1
        have h3 := hD.2.2.1
        clear hD
        generalize hAA : fillL y _ _ = AA at hK ⊢
        simp only [fillL, Act.put, List.setIfInBounds_toArray, List.set_cons_zero, List.set_cons_succ, List.getD_cons_zero, List.getD_cons_succ, IsP] at hAA
        subst hAA
        simp only [List.getD_cons_zero, List.getD_cons_succ, IsP] at hK
        simp only [h1, h2, h3] at hK ⊢
        clear h1 h2 h3
        refine ite_yes (by rfl) ?_
        go_simp
        exact hK _ _ _ rfl (Grew.refl _) rfl
      refine ⟨?_, ?_⟩
      · refine wordP_read 0 0 (by kernel_rfl) (by kernel_rfl) (by kernel_rfl) ?_
        intro y w5 p hlo hhi hW hD K hK
        obtain rfl : p = 0 := by omega
        have dd := Grew.cell (show Grew wr6 w5 from hW) c8
        simp only [depsP, List.getD_cons_zero, List.getD_cons_succ, IsP] at hD
        have h1 := hD.1
        have h2 := hD.2.1
        have h3 := hD.2.2.1
        have h4 := hD.2.2.2.1
        clear hD
        generalize hAA : fillL y _ _ = AA at hK ⊢
        simp only [fillL, Act.put, List.setIfInBounds_toArray, List.set_cons_zero, List.set_cons_succ, List.getD_cons_zero, List.getD_cons_succ, IsP] at hAA
        subst hAA
        simp only [List.getD_cons_zero, List.getD_cons_succ, IsP] at hK
        simp only [h1, h2, h3, h4] at hK ⊢
        clear h1 h2 h3 h4
        refine ite_yes (by rfl) ?_
        go_simp
        exact hK _ _ _ rfl (Grew.refl _) rfl
      refine ⟨?_, ?_⟩
      · refine wordP_read 0 0 (by kernel_rfl) (by kernel_rfl) (by kernel_rfl) ?_
        intro y w5 p hlo hhi hW hD K hK
        obtain rfl : p = 0 := by omega
        have dv0 := Env.cell (HE7.out.grew (show Grew wr6 w5 from hW)) HN3.out 0 _ rfl
        have dv1 := Env.cell (HE7.out.grew (show Grew wr6 w5 from hW)) HN3.out 1 _ rfl
        have dv2 := Env.cell (HE7.out.grew (show Grew wr6 w5 from hW)) HN3.out 2 _ rfl
        clear hD
        generalize hAA : fillL y _ _ = AA at hK ⊢
        simp only [fillL, Act.put, List.setIfInBounds_toArray, List.set_cons_zero, List.set_cons_succ, List.getD_cons_zero, List.getD_cons_succ, IsP] at hAA
        subst hAA
        simp only [List.getD_cons_zero, List.getD_cons_succ, IsP] at hK
        refine ite_yes (by rfl) ?_
        go_simp
        exact hK _ _ _ rfl (Grew.refl _) rfl
      refine ⟨?_, ?_⟩
      · refine wordP_read 0 0 (by kernel_rfl) (by kernel_rfl) (by kernel_rfl) ?_
        intro y w5 p hlo hhi hW hD K hK
        simp only [depsP, List.getD_cons_zero, List.getD_cons_succ, IsP] at hD
        have h6 := hD.1
        clear hD
        generalize hAA : fillL y _ _ = AA at hK ⊢
        simp only [fillL, Act.put, List.setIfInBounds_toArray, List.set_cons_zero, List.set_cons_succ, List.getD_cons_zero, List.getD_cons_succ, IsP] at hAA
        subst hAA
        simp only [List.getD_cons_zero, List.getD_cons_succ, IsP] at hK
        simp only [h6] at hK ⊢
        clear h6
        refine ite_yes (by rfl) ?_
        go_simp
        obtain rfl : p = 0 := by omega
        exact hK _ _ _ rfl ((Grew.refl _).alloc _) (fun _ => ⟨⟨_, rfl⟩, vals_new w5 (ty, wd, n)⟩)
      refine ⟨?_, ?_⟩
      · refine wordP_write 0 rfl ?_
        intro y w5 hW hD K hK
        simp only [depsP, List.getD_cons_zero, List.getD_cons_succ, IsP] at hD
        have h1 := hD.1
        have h2 := hD.2.1
        have h3 := hD.2.2.1
        have h4 := hD.2.2.2.1
        have h5 := hD.2.2.2.2.1
        have h6 := hD.2.2.2.2.2.1
        have h7 := hD.2.2.2.2.2.2.1
        clear hD
        generalize hAA : fillL y _ _ = AA at hK ⊢
        simp only [fillL, Act.put, List.setIfInBounds_toArray, List.set_cons_zero, List.set_cons_succ, List.getD_cons_zero, List.getD_cons_succ, IsP] at hAA
        subst hAA
        simp only [List.getD_cons_zero, List.getD_cons_succ, IsP] at hK
        simp only [h1, h2, h3, h4, h5, h6] at hK ⊢
        clear h1 h2 h3 h4 h5 h6
        obtain ⟨⟨g7, e7⟩, hv7⟩ := h7 (Nat.le_refl _)
        rw [e7] at hK hv7 ⊢
        refine ite_yes (by rfl) ?_
        refine wp_appV1 w5 _ _ rfl (.slice va8 x.vals.length vc8) x.vals rfl (own_grew HO8.out (show Grew wr6 w5 from hW)) _ (ty, wd, n) g7 rfl hv7 rfl (by have := HVS.out; omega) ?_
        intro v' w' ho hgr hnx
        exact hK _ _ _ rfl trivial (Moved.trans (Moved.of_grew (S := fun k => some k = (Value.slice va8 x.vals.length vc8).ownBlock) (show Grew wr6 w5 from hW)) (Moved.of_grown hgr) (fun _ _ e => e)) ⟨ho, fun k hk => (hnx k hk).imp id (fun e => Nat.le_trans (Grew.size (show Grew wr6 w5 from hW)) e)⟩
      refine ⟨?_, ?_⟩
      · refine wordP_read 1 1 (by kernel_rfl) (by kernel_rfl) (by kernel_rfl) ?_
        intro y w5 p hlo hhi hW hD K hK
        simp only [depsP, List.getD_cons_zero, List.getD_cons_succ, IsP] at hD
        have h0 := hD.1
        have h1 := hD.2.1
        have h2 := hD.2.2.1
        have h3 := hD.2.2.2.1
        have h4 := hD.2.2.2.2.1
        have h5 := hD.2.2.2.2.2.1
        have h6 := hD.2.2.2.2.2.2.1
        have h7 := hD.2.2.2.2.2.2.2.1
        have h8 := hD.2.2.2.2.2.2.2.2.1
        clear hD
        generalize hAA : fillL y _ _ = AA at hK ⊢
        simp only [fillL, Act.put, List.setIfInBounds_toArray, List.set_cons_zero, List.set_cons_succ, List.getD_cons_zero, List.getD_cons_succ, IsP] at hAA
        subst hAA
        simp only [List.getD_cons_zero, List.getD_cons_succ, IsP] at hK
        simp only [h0, h1, h2, h3, h4, h5, h6] at hK ⊢
        clear h0 h1 h2 h3 h4 h5 h6
        refine ite_yes (by rfl) ?_
        go_simp
        exact hK _ _ _ rfl (Grew.refl _) rfl
      refine ⟨?_, ?_⟩
      · refine wordP_read 1 1 (by kernel_rfl) (by kernel_rfl) (by kernel_rfl) ?_
        intro y w5 p hlo hhi hW hD K hK
        simp only [depsP, List.getD_cons_zero, List.getD_cons_succ, IsP] at hD
        have h0 := hD.1
        have h1 := hD.2.1
        have h2 := hD.2.2.1
        have h3 := hD.2.2.2.1
        have h4 := hD.2.2.2.2.1
        have h5 := hD.2.2.2.2.2.1
        have h6 := hD.2.2.2.2.2.2.1
        have h7 := hD.2.2.2.2.2.2.2.1
        have h8 := hD.2.2.2.2.2.2.2.2.1
        have h9 := hD.2.2.2.2.2.2.2.2.2.1
        clear hD
        generalize hAA : fillL y _ _ = AA at hK ⊢
        simp only [fillL, Act.put, List.setIfInBounds_toArray, List.set_cons_zero, List.set_cons_succ, List.getD_cons_zero, List.getD_cons_succ, IsP] at hAA
        subst hAA
        simp only [List.getD_cons_zero, List.getD_cons_succ, IsP] at hK
        simp only [h0, h1, h2, h3, h4, h5, h6, h9] at hK ⊢
        clear h0 h1 h2 h3 h4 h5 h6 h9
        refine ite_yes (by rfl) ?_
        go_simp
        exact hK _ _ _ rfl (Grew.refl _) rfl
      refine ⟨?_, ?_⟩
      · refine wordP_read 1 1 (by kernel_rfl) (by kernel_rfl) (by kernel_rfl) ?_
        intro y w5 p hlo hhi hW hD K hK
        simp only [depsP, List.getD_cons_zero, List.getD_cons_succ, IsP] at hD
        have h0 := hD.1
        have h1 := hD.2.1
        have h2 := hD.2.2.1
        have h3 := hD.2.2.2.1
        have h4 := hD.2.2.2.2.1
        have h5 := hD.2.2.2.2.2.1
        have h6 := hD.2.2.2.2.2.2.1
        have h7 := hD.2.2.2.2.2.2.2.1
        have h8 := hD.2.2.2.2.2.2.2.2.1
        have h9 := hD.2.2.2.2.2.2.2.2.2.1
        have h10 := hD.2.2.2.2.2.2.2.2.2.2.1
        clear hD
        generalize hAA : fillL y _ _ = AA at hK ⊢
        simp only [fillL, Act.put, List.setIfInBounds_toArray, List.set_cons_zero, List.set_cons_succ, List.getD_cons_zero, List.getD_cons_succ, IsP] at hAA
        subst hAA
        simp only [List.getD_cons_zero, List.getD_cons_succ, IsP] at hK
        simp only [h0, h1, h2, h3, h4, h5, h6, h9, h10] at hK ⊢
        clear h0 h1 h2 h3 h4 h5 h6 h9 h10
        refine ite_yes (by rfl) ?_
        go_simp
        exact hK _ _ _ rfl (Grew.refl _) rfl
      refine ⟨?_, ?_⟩
      · refine wordP_write 1 rfl ?_
        intro y w5 hW hD K hK
        have hrp : w5.heap[q.p]? = some (rowB q flags (.slice va8 x.vals.length vc8) ({ ({ x with s := s1 } : BS).fail ee with lists := putP list x.vals.length x.lists }).e) := Moved.heap (show Moved _ wr6 w5 from hW) HR8.out (fun e => owns_ne HO8.out HR8.out (by decide) e.symm)
        have dd := row_cellT hrp 8 _ rfl
        have ff := row_frozen hrp 8
        simp only [depsP, List.getD_cons_zero, List.getD_cons_succ, IsP] at hD
        have h0 := hD.1
        have h1 := hD.2.1
        have h2 := hD.2.2.1
        have h3 := hD.2.2.2.1
        have h4 := hD.2.2.2.2.1
        have h5 := hD.2.2.2.2.2.1
        have h6 := hD.2.2.2.2.2.2.1
        have h7 := hD.2.2.2.2.2.2.2.1
        have h8 := hD.2.2.2.2.2.2.2.2.1
        have h9 := hD.2.2.2.2.2.2.2.2.2.1
        have h10 := hD.2.2.2.2.2.2.2.2.2.2.1
        have h11 := hD.2.2.2.2.2.2.2.2.2.2.2.1
        clear hD
        generalize hAA : fillL y _ _ = AA at hK ⊢
        simp only [fillL, Act.put, List.setIfInBounds_toArray, List.set_cons_zero, List.set_cons_succ, List.getD_cons_zero, List.getD_cons_succ, IsP] at hAA
        subst hAA
        simp only [List.getD_cons_zero, List.getD_cons_succ, IsP] at hK
        simp only [h0, h1, h2, h3, h4, h5, h6, h9, h10, h11] at hK ⊢
        clear h0 h1 h2 h3 h4 h5 h6 h9 h10 h11
        have hq : OwnVals w5 0 _ _ ∧ Next wr6 _ _ := h8
        obtain ⟨a8, c8', e8, _⟩ := own_form hq.1
        replace e8 : y 8 = .slice a8 (x.vals.length + 1) c8' := by rw [e8]; simp
        rw [e8] at hK hq ⊢
        clear e8 h8
        refine ite_yes (by rfl) ?_
        go_simp
        exact hK _ undef _ rfl trivial (HE7.out.setVals HR8.out (show Moved _ wr6 w5 from hW) hq.1 hq.2 HLV.out HOV.out) trivial
      trivial
    refine ⟨?_, ?_⟩
    · refine wordP_read 0 0 (by kernel_rfl) (by kernel_rfl) (by kernel_rfl) ?_
      intro y wr6 p hlo hhi hW hD K hK
      have dq := Env.cell hW HN1.out 0 _ rfl
      clear hD
      generalize hAA : fillL y _ _ = AA at hK ⊢
      simp only [fillL, Act.put, List.setIfInBounds_toArray, List.set_cons_zero, List.set_cons_succ, List.getD_cons_zero, List.getD_cons_succ, IsP] at hAA
      subst hAA
      simp only [List.getD_cons_zero, List.getD_cons_succ, IsP] at hK
      refine ite_yes (by rfl) ?_
      go_simp
      exact hK _ _ _ rfl (Grew.refl _) rfl
    refine ⟨?_, ?_⟩
    · refine wordP_read 0 0 (by kernel_rfl) (by kernel_rfl) (by kernel_rfl) ?_
      intro y wr6 p hlo hhi hW hD K hK
      simp only [depsP, List.getD_cons_zero, List.getD_cons_succ, IsP] at hD
      have h0 := hD.1
      clear hD
      generalize hAA : fillL y _ _ = AA at hK ⊢
      simp only [fillL, Act.put, List.setIfInBounds_toArray, List.set_cons_zero, List.set_cons_succ, List.getD_cons_zero, List.getD_cons_succ, IsP] at hAA
      subst hAA
      simp only [List.getD_cons_zero, List.getD_cons_succ, IsP] at hK
      simp only [h0] at hK ⊢
      clear h0
      refine ite_yes (by rfl) ?_
      go_simp
      exact hK _ _ _ rfl (Grew.refl _) rfl
    refine ⟨?_, ?_⟩
    · refine wordP_read 0 0 (by kernel_rfl) (by kernel_rfl) (by kernel_rfl) ?_
      intro y wr6 p hlo hhi hW hD K hK
      simp only [depsP, List.getD_cons_zero, List.getD_cons_succ, IsP] at hD
      have h0 := hD.1
      have h1 := hD.2.1
      clear hD
      generalize hAA : fillL y _ _ = AA at hK ⊢
      simp only [fillL, Act.put, List.setIfInBounds_toArray, List.set_cons_zero, List.set_cons_succ, List.getD_cons_zero, List.getD_cons_succ, IsP] at hAA
      subst hAA
      simp only [List.getD_cons_zero, List.getD_cons_succ, IsP] at hK
      simp only [h0, h1] at hK ⊢
      clear h0 h1
      refine ite_yes (by rfl) ?_
      go_simp
      exact hK _ _ _ rfl (Grew.refl _) rfl
    refine ⟨?_, ?_⟩
    · refine wordP_read 0 0 (by kernel_rfl) (by kernel_rfl) (by kernel_rfl) ?_
      intro y wr6 p hlo hhi hW hD K hK
      simp only [depsP, List.getD_cons_zero, List.getD_cons_succ, IsP] at hD
      have h0 := hD.1
      have h1 := hD.2.1
      have h2 := hD.2.2.1
      clear hD
      generalize hAA : fillL y _ _ = AA at hK ⊢
      simp only [fillL, Act.put, List.setIfInBounds_toArray, List.set_cons_zero, List.set_cons_succ, List.getD_cons_zero, List.getD_cons_succ, IsP] at hAA
      subst hAA
      simp only [List.getD_cons_zero, List.getD_cons_succ, IsP] at hK
      simp only [h0, h1, h2] at hK ⊢
      clear h0 h1 h2
      refine ite_yes (by rfl) ?_
      go_simp
      exact hK _ _ _ rfl (Grew.refl _) rfl
    refine ⟨?_, ?_⟩
    · refine wordP_read 0 0 (by kernel_rfl) (by kernel_rfl) (by kernel_rfl) ?_
      intro y wr6 p hlo hhi hW hD K hK
      have dd := Env.at6 hW
      simp only [depsP, List.getD_cons_zero, List.getD_cons_succ, IsP] at hD
      have h0 := hD.1
      have h1 := hD.2.1
      have h2 := hD.2.2.1
      have h3 := hD.2.2.2.1
      clear hD
      generalize hAA : fillL y _ _ = AA at hK ⊢
      simp only [fillL, Act.put, List.setIfInBounds_toArray, List.set_cons_zero, List.set_cons_succ, List.getD_cons_zero, List.getD_cons_succ, IsP] at hAA
      subst hAA
      simp only [List.getD_cons_zero, List.getD_cons_succ, IsP] at hK
      simp only [h0, h1, h2, h3] at hK ⊢
      clear h0 h1 h2 h3
      refine ite_yes (by rfl) ?_
      go_simp
      exact hK _ _ _ rfl (Grew.refl _) rfl
    refine ⟨?_, ?_⟩
    · refine wordP_read 0 0 (by kernel_rfl) (by kernel_rfl) (by kernel_rfl) ?_
      intro y wr6 p hlo hhi hW hD K hK
      clear hD
      generalize hAA : fillL y _ _ = AA at hK ⊢
      simp only [fillL, Act.put, List.setIfInBounds_toArray, List.set_cons_zero, List.set_cons_succ, List.getD_cons_zero, List.getD_cons_succ, IsP] at hAA
      subst hAA
      simp only [List.getD_cons_zero, List.getD_cons_succ, IsP] at hK
      refine ite_yes (by rfl) ?_
      go_simp
      exact hK _ _ _ rfl (Grew.refl _) rfl
    refine ⟨?_, ?_⟩
    · refine wordP_read 0 0 (by kernel_rfl) (by kernel_rfl) (by kernel_rfl) ?_
      intro y wr6 p hlo hhi hW hD K hK
      have di := Env.cell hW List.mem_cons_self 0 _ rfl
      clear hD
      generalize hAA : fillL y _ _ = AA at hK ⊢
      simp only [fillL, Act.put, List.setIfInBounds_toArray, List.set_cons_zero, List.set_cons_succ, List.getD_cons_zero, List.getD_cons_succ, IsP] at hAA
      subst hAA
      simp only [List.getD_cons_zero, List.getD_cons_succ, IsP] at hK
      refine ite_yes (by rfl) ?_
      go_simp
      exact hK _ _ _ rfl (Grew.refl _) rfl
    refine ⟨?_, ?_⟩
    · refine wordP_write 0 rfl ?_
      intro y wr6 hW hD K hK
      simp only [depsP, List.getD_cons_zero, List.getD_cons_succ, IsP] at hD
      have h0 := hD.1
      have h1 := hD.2.1
      have h2 := hD.2.2.1
      have h3 := hD.2.2.2.1
      have h4 := hD.2.2.2.2.1
      have h5 := hD.2.2.2.2.2.1
      have h6 := hD.2.2.2.2.2.2.1
      clear hD
      generalize hAA : fillL y _ _ = AA at hK ⊢
      simp only [fillL, Act.put, List.setIfInBounds_toArray, List.set_cons_zero, List.set_cons_succ, List.getD_cons_zero, List.getD_cons_succ, IsP] at hAA
      subst hAA
      simp only [List.getD_cons_zero, List.getD_cons_succ, IsP] at hK
      simp only [h0, h1, h2, h3, h4, h5, h6] at hK ⊢
      clear h0 h1 h2 h3 h4 h5 h6
      refine ite_yes (by rfl) ?_
      go_simp
      refine (Env.listsPut (x := ({ x with s := s1 } : BS).fail ee) list (x.vals.length : Int) HLS.out hW).mono ?_
      rintro r w3 ⟨rfl, he⟩
      exact hK _ _ _ rfl trivial he rfl
    trivial
  | true =>
    cases ho : onF flags 4 with
    | false =>
      have HO := Lib.hid ho
      have HTE2 : Hid (x.table most (onF flags 4) list keys vals = ({ x with s := s1, e := failS x.e ee, lists := putP list x.vals.length x.lists, vals := x.vals ++ [(ty, wd, n)] } : BS).tableEnd most x.vals.length vals) := by have h := HTE.out; show _ = _; rw [ho] at h ⊢; simpa using h
      clear ho
      go_wp2_with fail
      generalize (w2.alloc (.cells #[.int .i64 ga] 3)) = w3 at *
      refine (HB1.out.onE 4).mono ?_
      rw [HO.out]
      rintro r w9 ⟨rfl, hw9⟩
      obtain rfl : w3 = w9 := hw9.symm
      have c0 := HB1.out.at0
      go_wp2_with fail
      skip
      refine (HMK.out _ _ HB1.out).mono ?_
      rintro r w4 ⟨rfl, hA⟩
      have HE3 := Lib.hid (hA _ HB1.out)
      rw [show putV ((ty, wd, n), ee) = .tuple #[.agg #[.int .i64 ty, .int .i64 wd, .int .u64 n], .int .i64 ee] from rfl]
      clear hA c0 cb1 cl1
      have HB4 := Lib.hid (HE3.out.add (.cells #[.int .i64 ty, .int .i64 wd, .int .u64 n] 92))
      have cb4 := Env.cell HB4.out (List.mem_cons_of_mem _ (List.mem_cons_of_mem _ HM1.out)) 0 _ rfl
      have HS4 : Hid (w2.heap.size < w4.heap.size ∧ w.heap.size < w4.heap.size ∧ w.heap.size + 1 < w4.heap.size) := ⟨(Array.getElem?_eq_some_iff.1 (HE3.out.kp List.mem_cons_self)).1, (Array.getElem?_eq_some_iff.1 (HE3.out.kp (List.mem_cons_of_mem _ HM1.out))).1, (Array.getElem?_eq_some_iff.1 (HE3.out.kp (List.mem_cons_of_mem _ HM2.out))).1⟩
      go_wp2_with fail
      generalize (w4.alloc (.cells #[.int .i64 ty, .int .i64 wd, .int .u64 n] 92)) = w5 at *
      refine (HB4.out.call fun κ1 hb hz => pfail_any ee hb).mono ?_
      rintro r w6 ⟨rfl, he⟩
      have HE5 := Lib.hid he
      clear he cb4
      obtain ⟨va6, vc6, hrow6, hown6⟩ := HE5.out.row8
      have c86 : w6.cell? ⟨q.p, 8, none⟩ = some (.slice va6 x.vals.length vc6) := row_cellT hrow6 8 _ rfl
      clear hrow6 hown6
      have cb5 := Env.cell HE5.out (List.mem_cons_of_mem _ (List.mem_cons_of_mem _ HM1.out)) 0 _ rfl
      have hri := HE5.out.kp (List.mem_cons_of_mem _ List.mem_cons_self)
      have fi := row_frozen hri 0
      have ci := row_cellT hri 0 _ rfl
      have HE6 : Hid (Env B q most flags w κ ((w2.heap.size, Obj.cells #[.int .i64 x.vals.length] 3 (0, 0)) :: (w4.heap.size, Obj.cells #[.int .i64 ty, .int .i64 wd, .int .u64 n] 92 (0, 0)) :: [(w.heap.size + 1, Obj.cells #[.slice va vals.length vc] 51 (0, 0)), (w.heap.size, Obj.cells #[bptr q.p] 23 (0, 0))]) (({ x with s := s1 } : BS).fail ee) (w6.setCell ⟨w2.heap.size, 0, none⟩ (.int .i64 x.vals.length))) := by
        have ho := heap_setCell_same w6 w2.heap.size 0 _ _ (.int .i64 x.vals.length) hri
        refine (NewE.tell (o := .cells #[.int .i64 ga] 3 (0, 0)) ⟨⟨by have := HSZ.out.1; omega, fun z hz e => ?_⟩, HE5.out.mono (fun z hz => ?_)⟩ (moved_at w6 w2.heap.size 0 _) (by simpa using ho)).2
        · simp only [List.mem_cons, List.not_mem_nil, or_false] at hz
          have h1 := HSZ.out
          have h2 := HS4.out
          rcases hz with rfl | rfl | rfl <;> dsimp only at e <;> omega
        · simp only [List.mem_cons, List.not_mem_nil, or_false] at hz ⊢
          rcases hz with rfl | rfl | rfl | rfl <;> simp
      have HN1 : Hid ((w.heap.size, Obj.cells #[bptr q.p] 23 (0, 0)) ∈ (((w2.heap.size, Obj.cells #[.int .i64 x.vals.length] 3 (0, 0)) :: (w4.heap.size, Obj.cells #[.int .i64 ty, .int .i64 wd, .int .u64 n] 92 (0, 0)) :: [(w.heap.size + 1, Obj.cells #[.slice va vals.length vc] 51 (0, 0)), (w.heap.size, Obj.cells #[bptr q.p] 23 (0, 0))]) : List (Nat × Obj))) := List.mem_cons_of_mem _ (List.mem_cons_of_mem _ HM1.out)
      have HN3 : Hid ((w4.heap.size, Obj.cells #[.int .i64 ty, .int .i64 wd, .int .u64 n] 92 (0, 0)) ∈ (((w2.heap.size, Obj.cells #[.int .i64 x.vals.length] 3 (0, 0)) :: (w4.heap.size, Obj.cells #[.int .i64 ty, .int .i64 wd, .int .u64 n] 92 (0, 0)) :: [(w.heap.size + 1, Obj.cells #[.slice va vals.length vc] 51 (0, 0)), (w.heap.size, Obj.cells #[bptr q.p] 23 (0, 0))]) : List (Nat × Obj))) := List.mem_cons_of_mem _ List.mem_cons_self
      clear hri
      go_wp2_with fail
      generalize (w6.setCell ⟨w2.heap.size, 0, none⟩ (.int .i64 x.vals.length)) = w7 at *
      clear c86 cb5 fi ci
      refine wp_region_phases [7] (EnvW B q most flags w κ ((w2.heap.size, Obj.cells #[.int .i64 x.vals.length] 3 (0, 0)) :: (w4.heap.size, Obj.cells #[.int .i64 ty, .int .i64 wd, .int .u64 n] 92 (0, 0)) :: [(w.heap.size + 1, Obj.cells #[.slice va vals.length vc] 51 (0, 0)), (w.heap.size, Obj.cells #[bptr q.p] 23 (0, 0))]) [({ x with s := s1 } : BS).fail ee] ({ ({ x with s := s1 } : BS).fail ee with lists := putP list x.vals.length x.lists })) (fun _ w w' => Grew w w') ((fun p (_ : Nat → Value) => (fun _ _ _ => True) p)) [[], [0], [0, 1], [0, 1, 2], [0, 1, 2, 3], [], [], [0, 1, 2, 3, 4, 5, 6]] [[(57, 5), (58, 6)], [(52, 0), (57, 5), (58, 6)], [(52, 0), (53, 1), (57, 5), (58, 6)], [(52, 0), (53, 1), (54, 2), (57, 5), (58, 6)], [(52, 0), (53, 1), (54, 2), (55, 3), (57, 5), (58, 6)], [(52, 0), (53, 1), (54, 2), (55, 3), (56, 4), (58, 6)], [(52, 0), (53, 1), (54, 2), (55, 3), (56, 4), (57, 5)], [(52, 0), (53, 1), (54, 2), (55, 3), (56, 4), (57, 5), (58, 6)]] [(52, 0), (53, 1), (54, 2), (55, 3), (56, 4), (57, 5), (58, 6), (59, 7)]
        [IsP (bptr q.p), IsP (bptr q.p), IsP (.pointer (some ⟨q.p, 3, none⟩)), IsP (.pointer (some ⟨q.p, 6, none⟩)), IsP (bptr q.l), IsP (.string list), IsP (.int .i64 x.vals.length), IsP (.int .i64 (putE15 list x.vals.length x.lists))]
        (by kernel_rfl) (EnvW.grew) (HE6.out.grew (Grew.refl _).drew) (by kernel_rfl) (by kernel_rfl) ⟨isP_st, isP_st, isP_st, isP_st, isP_st, isP_st, isP_st, isP_st, trivial⟩ rfl ?_ ?_
      · intro y wr6 hW hF
        simp only [factsP, IsP, Nat.reduceAdd, List.length_cons, List.length_nil] at hF hW
        have h0 := hF.1
        have h1 := hF.2.1
        have h2 := hF.2.2.1
        have h3 := hF.2.2.2.1
        have h4 := hF.2.2.2.2.1
        have h5 := hF.2.2.2.2.2.1
        have h6 := hF.2.2.2.2.2.2.1
        have h7 := hF.2.2.2.2.2.2.2.1
        clear hF
        simp only [fillL, Act.put, List.setIfInBounds_toArray, List.set_cons_zero, List.set_cons_succ, List.getD_cons_zero, List.getD_cons_succ]
        simp only [h0, h1, h2, h3, h4, h5, h6, h7]
        clear h0 h1 h2 h3 h4 h5 h6 h7
        have HE7 : Hid (Env B q most flags w κ ((w2.heap.size, Obj.cells #[.int .i64 x.vals.length] 3 (0, 0)) :: (w4.heap.size, Obj.cells #[.int .i64 ty, .int .i64 wd, .int .u64 n] 92 (0, 0)) :: [(w.heap.size + 1, Obj.cells #[.slice va vals.length vc] 51 (0, 0)), (w.heap.size, Obj.cells #[bptr q.p] 23 (0, 0))]) ({ ({ x with s := s1 } : BS).fail ee with lists := putP list x.vals.length x.lists }) wr6) := hW
        have HLV : Hid ((x.vals ++ [(ty, wd, n)]).length ≤ 1048577) := by show _ ≤ _; rw [List.length_append]; have := HVS.out; simp; omega
        have HOV : Hid (∀ u ∈ x.vals ++ [((ty, wd, n) : V3)], okV u) := by
          intro u hu
          rcases List.mem_append.1 hu with hu | hu
          · exact HOL.out u hu
          · simp at hu; subst hu; exact HOKN.out
        obtain ⟨va8, vc8, hrow8, hown8⟩ := HE7.out.row8
        have HR8 := Lib.hid hrow8
        have HO8 : Hid (OwnVals wr6 0 (.slice va8 x.vals.length vc8) x.vals) := hown8
        have c8 : wr6.cell? ⟨q.p, 8, none⟩ = some (.slice va8 x.vals.length vc8) := row_cellT hrow8 8 _ rfl
        clear hrow8 hown8
        go_wp2_with fail
        refine wp_region_phases [8, 12] (ApW wr6 (.slice va8 x.vals.length vc8) (fun w' => Env B q most flags w κ ((w2.heap.size, Obj.cells #[.int .i64 x.vals.length] 3 (0, 0)) :: (w4.heap.size, Obj.cells #[.int .i64 ty, .int .i64 wd, .int .u64 n] 92 (0, 0)) :: [(w.heap.size + 1, Obj.cells #[.slice va vals.length vc] 51 (0, 0)), (w.heap.size, Obj.cells #[bptr q.p] 23 (0, 0))]) ({ ({ ({ x with s := s1 } : BS).fail ee with lists := putP list x.vals.length x.lists } : BS) with vals := x.vals ++ [(ty, wd, n)] }) w')) (fun _ w w' => Grew w w') ((fun p (_ : Nat → Value) => (fun _ _ _ => True) p)) [[], [], [1], [1, 2], [1, 2, 3], [1, 2, 3, 4], [], [6], [1, 2, 3, 4, 5, 6, 7], [0, 1, 2, 3, 4, 5, 6, 7, 8], [0, 1, 2, 3, 4, 5, 6, 7, 8, 9], [0, 1, 2, 3, 4, 5, 6, 7, 8, 9, 10], [0, 1, 2, 3, 4, 5, 6, 7, 8, 9, 10, 11]] [[(61, 1), (62, 2), (63, 3), (64, 4), (65, 5), (66, 6), (67, 7), (68, 8)], [(60, 0), (66, 6), (67, 7)], [(60, 0), (61, 1), (66, 6), (67, 7)], [(60, 0), (61, 1), (62, 2), (66, 6), (67, 7)], [(60, 0), (61, 1), (62, 2), (63, 3), (66, 6), (67, 7)], [(60, 0), (61, 1), (62, 2), (63, 3), (64, 4), (66, 6), (67, 7)], [(60, 0), (61, 1), (62, 2), (63, 3), (64, 4), (65, 5)], [(60, 0), (61, 1), (62, 2), (63, 3), (64, 4), (65, 5), (66, 6)], [(60, 0), (61, 1), (62, 2), (63, 3), (64, 4), (65, 5), (66, 6), (67, 7)], [(60, 0), (61, 1), (62, 2), (63, 3), (64, 4), (65, 5), (66, 6), (67, 7), (68, 8)], [(60, 0), (61, 1), (62, 2), (63, 3), (64, 4), (65, 5), (66, 6), (67, 7), (68, 8), (69, 9)], [(60, 0), (61, 1), (62, 2), (63, 3), (64, 4), (65, 5), (66, 6), (67, 7), (68, 8), (69, 9), (70, 10)], [(60, 0), (61, 1), (62, 2), (63, 3), (64, 4), (65, 5), (66, 6), (67, 7), (68, 8), (69, 9), (70, 10), (71, 11)]] [(60, 0), (61, 1), (62, 2), (63, 3), (64, 4), (65, 5), (66, 6), (67, 7), (68, 8), (69, 9), (70, 10), (71, 11)]
          [IsP (bptr q.p), IsP (bptr q.p), IsP (bptr q.p), IsP (.pointer (some ⟨q.p, 3, none⟩)), IsP (.pointer (some ⟨q.p, 8, none⟩)), IsP (.slice va8 x.vals.length vc8), IsP (.agg #[.int .i64 ty, .int .i64 wd, .int .u64 n]), TillP 0 (fun v w => (∃ g, v = .slice (some ⟨g, 0, none⟩) 1 1) ∧ ValsAt w v [(ty, wd, n)]), ApF wr6 (.slice va8 x.vals.length vc8) (x.vals ++ [(ty, wd, n)]), IsP (bptr q.p), IsP (.pointer (some ⟨q.p, 3, none⟩)), IsP (.pointer (some ⟨q.p, 8, none⟩)), fun _ _ _ => True]
          (by kernel_rfl) (ApW.grew (fun w1 w2 hg h => Env.grew h hg)) ((Grew.refl _).drew) (by kernel_rfl) (by kernel_rfl) ⟨isP_st, isP_st, isP_st, isP_st, isP_st, isP_st, isP_st, stOld (TillP.st (fun v w w' hg h => ⟨h.1, h.2.grew hg⟩)), stOld (ApF.st), isP_st, isP_st, isP_st, ⟨fun _ _ _ _ _ h => h, fun _ _ _ _ _ h => h⟩, trivial⟩ rfl ?_ ?_
        · intro y w5 hW hF
          simp only [factsP, IsP, Nat.reduceAdd, List.length_cons, List.length_nil] at hF hW
          have h0 := hF.1
          have h1 := hF.2.1
          have h2 := hF.2.2.1
          have h3 := hF.2.2.2.1
          have h4 := hF.2.2.2.2.1
          have h5 := hF.2.2.2.2.2.1
          have h6 := hF.2.2.2.2.2.2.1
          have h7 := hF.2.2.2.2.2.2.2.1
          have h8 := hF.2.2.2.2.2.2.2.2.1
          have h9 := hF.2.2.2.2.2.2.2.2.2.1
          have h10 := hF.2.2.2.2.2.2.2.2.2.2.1
          have h11 := hF.2.2.2.2.2.2.2.2.2.2.2.1
          clear hF
          simp only [fillL, Act.put, List.setIfInBounds_toArray, List.set_cons_zero, List.set_cons_succ, List.getD_cons_zero, List.getD_cons_succ]
          simp only [h0, h1, h2, h3, h4, h5, h6, h9, h10, h11]
          clear h0 h1 h2 h3 h4 h5 h6 h9 h10 h11
          have HE8 : Hid (Env B q most flags w κ ((w2.heap.size, Obj.cells #[.int .i64 x.vals.length] 3 (0, 0)) :: (w4.heap.size, Obj.cells #[.int .i64 ty, .int .i64 wd, .int .u64 n] 92 (0, 0)) :: [(w.heap.size + 1, Obj.cells #[.slice va vals.length vc] 51 (0, 0)), (w.heap.size, Obj.cells #[bptr q.p] 23 (0, 0))]) (({ x with s := s1, e := failS x.e ee, lists := putP list x.vals.length x.lists, vals := x.vals ++ [(ty, wd, n)] } : BS)) w5) := hW
          clear hW h7 h8
          have cb8 := Env.cell HE8.out HN1.out 0 _ rfl
          go_wp2_with fail
          have HT : Hid (∀ κ1 wz, Tn κ κ1 w wz → Env B q most flags wz κ1 (((w2.heap.size, Obj.cells #[.int .i64 x.vals.length] 3 (0, 0)) :: (w4.heap.size, Obj.cells #[.int .i64 ty, .int .i64 wd, .int .u64 n] 92 (0, 0)) :: [(w.heap.size + 1, Obj.cells #[.slice va vals.length vc] 51 (0, 0)), (w.heap.size, Obj.cells #[bptr q.p] 23 (0, 0))])) (({ x with s := s1, e := failS x.e ee, lists := putP list x.vals.length x.lists, vals := x.vals ++ [(ty, wd, n)] } : BS)) wz → (({ x with s := s1, e := failS x.e ee, lists := putP list x.vals.length x.lists, vals := x.vals ++ [(ty, wd, n)] } : BS)).e = 0 → Calls Tryz.prog 167 #[.pointer (some ⟨w.heap.size, 0, none⟩), .pointer (some ⟨w2.heap.size, 0, none⟩), .pointer (some ⟨w.heap.size + 1, 0, none⟩)] wz fun r w' => r = .returned (.tuple #[]) ∧ TurnX B q most flags κ1 ((({ x with s := s1, e := failS x.e ee, lists := putP list x.vals.length x.lists, vals := x.vals ++ [(ty, wd, n)] } : BS)).tableEnd most x.vals.length vals) wz w') := fun κ1 wz ht he he0 => HT1.out _ (x.vals.length) κ1 wz _ _ _ HNG.out he0 (by show _ < (x.vals ++ [(ty, wd, n)]).length; rw [List.length_append]; simp) ht (he.mono (fun z hz => by simp only [List.mem_cons, List.not_mem_nil, or_false] at hz ⊢; rcases hz with rfl | rfl | rfl <;> simp))
          refine (HE8.out.callT fun κ1 hb ht he => unless_any hb _ _ ((({ x with s := s1, e := failS x.e ee, lists := putP list x.vals.length x.lists, vals := x.vals ++ [(ty, wd, n)] } : BS)).tableEnd most x.vals.length vals) (fun hne => by unfold BS.tableEnd; rw [if_neg hne]) (fun _ => enters_of Tryz.func167 (by kernel_rfl) rfl _ _) (fun he0 => HT.out κ1 _ ht he he0)).mono ?_
          rintro r w9 ⟨rfl, he⟩
          have HF := Lib.hid he
          clear he
          go_wp2
          go_end0
          exact ⟨rfl, by rw [HTE2.out]; exact HF.out.turn⟩
        refine ⟨?_, ?_⟩
        · refine wordP_read 0 1 (by kernel_rfl) (by kernel_rfl) (by kernel_rfl) ?_
          intro y w5 p hlo hhi hW hD K hK
          have dq := row_cellT (ApW.old hW hhi (HE7.out.kp HN1.out) (fun e => owns_ne HO8.out (HE7.out.kp HN1.out) (by decide) e.symm)) 0 _ rfl
          clear hD
          generalize hAA : fillL y _ _ = AA at hK ⊢
          simp only [fillL, Act.put, List.setIfInBounds_toArray, List.set_cons_zero, List.set_cons_succ, List.getD_cons_zero, List.getD_cons_succ, IsP] at hAA
          subst hAA
          simp only [List.getD_cons_zero, List.getD_cons_succ, IsP] at hK
          refine ite_yes (by rfl) ?_
          go_simp
          exact hK _ _ _ rfl (Grew.refl _) rfl
        refine ⟨?_, ?_⟩
        · refine wordP_read 0 0 (by kernel_rfl) (by kernel_rfl) (by kernel_rfl) ?_
          intro y w5 p hlo hhi hW hD K hK
          obtain rfl : p = 0 := by omega
          have dq := Env.cell ((HE7.out).grew (show Grew wr6 w5 from hW)) HN1.out 0 _ rfl
          clear hD
          generalize hAA : fillL y _ _ = AA at hK ⊢
          simp only [fillL, Act.put, List.setIfInBounds_toArray, List.set_cons_zero, List.set_cons_succ, List.getD_cons_zero, List.getD_cons_succ, IsP] at hAA
          subst hAA
          simp only [List.getD_cons_zero, List.getD_cons_succ, IsP] at hK
          refine ite_yes (by rfl) ?_
          go_simp
          exact hK _ _ _ rfl (Grew.refl _) rfl
        refine ⟨?_, ?_⟩
        · refine wordP_read 0 0 (by kernel_rfl) (by kernel_rfl) (by kernel_rfl) ?_
          intro y w5 p hlo hhi hW hD K hK
          simp only [depsP, List.getD_cons_zero, List.getD_cons_succ, IsP] at hD
          have h1 := hD.1
          clear hD
          generalize hAA : fillL y _ _ = AA at hK ⊢
          simp only [fillL, Act.put, List.setIfInBounds_toArray, List.set_cons_zero, List.set_cons_succ, List.getD_cons_zero, List.getD_cons_succ, IsP] at hAA
          subst hAA
          simp only [List.getD_cons_zero, List.getD_cons_succ, IsP] at hK
          simp only [h1] at hK ⊢
          clear h1
          refine ite_yes (by rfl) ?_
          go_simp
          exact hK _ _ _ rfl (Grew.refl _) rfl
        refine ⟨?_, ?_⟩
        · refine wordP_read 0 0 (by kernel_rfl) (by kernel_rfl) (by kernel_rfl) ?_
          intro y w5 p hlo hhi hW hD K hK
          simp only [depsP, List.getD_cons_zero, List.getD_cons_succ, IsP] at hD
          have h1 := hD.1
          have h2 := hD.2.1
          clear hD
          generalize hAA : fillL y _ _ = AA at hK ⊢
          simp only [fillL, Act.put, List.setIfInBounds_toArray, List.set_cons_zero, List.set_cons_succ, List.getD_cons_zero, List.getD_cons_succ, IsP] at hAA
          subst hAA
          simp only [List.getD_cons_zero, List.getD_cons_succ, IsP] at hK
          simp only [h1, h2] at hK ⊢
          clear h1 h2
          refine ite_yes (by rfl) ?_
          go_simp
          exact hK _ _ _ rfl (Grew.refl _) rfl
        refine ⟨?_, ?_⟩
        · refine wordP_read 0 0 (by kernel_rfl) (by kernel_rfl) (by kernel_rfl) ?_
          intro y w5 p hlo hhi hW hD K hK
          simp only [depsP, List.getD_cons_zero, List.getD_cons_succ, IsP] at hD
          have h1 := hD.1
          have h2 := hD.2.1
          have h3 := hD.2.2.1
          clear hD
          generalize hAA : fillL y _ _ = AA at hK ⊢
          simp only [fillL, Act.put, List.setIfInBounds_toArray, List.set_cons_zero, List.set_cons_succ, List.getD_cons_zero, List.getD_cons_succ, IsP] at hAA
          subst hAA
          simp only [List.getD_cons_zero, List.getD_cons_succ, IsP] at hK
          simp only [h1, h2, h3] at hK ⊢
          clear h1 h2 h3
          refine ite_yes (by rfl) ?_
          go_simp
          exact hK _ _ _ rfl (Grew.refl _) rfl
        refine ⟨?_, ?_⟩
        · refine wordP_read 0 0 (by kernel_rfl) (by kernel_rfl) (by kernel_rfl) ?_
          intro y w5 p hlo hhi hW hD K hK
          obtain rfl : p = 0 := by omega
          have dd := Grew.cell (show Grew wr6 w5 from hW) c8
          simp only [depsP, List.getD_cons_zero, List.getD_cons_succ, IsP] at hD
          have h1 := hD.1
          have h2 := hD.2.1
          have h3 := hD.2.2.1
          have h4 := hD.2.2.2.1
          clear hD
          generalize hAA : fillL y _ _ = AA at hK ⊢
          simp only [fillL, Act.put, List.setIfInBounds_toArray, List.set_cons_zero, List.set_cons_succ, List.getD_cons_zero, List.getD_cons_succ, IsP] at hAA
          subst hAA
          simp only [List.getD_cons_zero, List.getD_cons_succ, IsP] at hK
          simp only [h1, h2, h3, h4] at hK ⊢
          clear h1 h2 h3 h4
          refine ite_yes (by rfl) ?_
          go_simp
          exact hK _ _ _ rfl (Grew.refl _) rfl
        refine ⟨?_, ?_⟩
        · refine wordP_read 0 0 (by kernel_rfl) (by kernel_rfl) (by kernel_rfl) ?_
          intro y w5 p hlo hhi hW hD K hK
          obtain rfl : p = 0 := by omega
          have dv0 := Env.cell (HE7.out.grew (show Grew wr6 w5 from hW)) HN3.out 0 _ rfl
          have dv1 := Env.cell (HE7.out.grew (show Grew wr6 w5 from hW)) HN3.out 1 _ rfl
          have dv2 := Env.cell (HE7.out.grew (show Grew wr6 w5 from hW)) HN3.out 2 _ rfl
          clear hD
          generalize hAA : fillL y _ _ = AA at hK ⊢
          simp only [fillL, Act.put, List.setIfInBounds_toArray, List.set_cons_zero, List.set_cons_succ, List.getD_cons_zero, List.getD_cons_succ, IsP] at hAA
          subst hAA
          simp only [List.getD_cons_zero, List.getD_cons_succ, IsP] at hK
          refine ite_yes (by rfl) ?_
          go_simp
          exact hK _ _ _ rfl (Grew.refl _) rfl
        refine ⟨?_, ?_⟩
        · refine wordP_read 0 0 (by kernel_rfl) (by kernel_rfl) (by kernel_rfl) ?_
          intro y w5 p hlo hhi hW hD K hK
          simp only [depsP, List.getD_cons_zero, List.getD_cons_succ, IsP] at hD
          have h6 := hD.1
          clear hD
          generalize hAA : fillL y _ _ = AA at hK ⊢
          simp only [fillL, Act.put, List.setIfInBounds_toArray, List.set_cons_zero, List.set_cons_succ, List.getD_cons_zero, List.getD_cons_succ, IsP] at hAA
          subst hAA
          simp only [List.getD_cons_zero, List.getD_cons_succ, IsP] at hK
          simp only [h6] at hK ⊢
          clear h6
          refine ite_yes (by rfl) ?_
          go_simp
          obtain rfl : p = 0 := by omega
          exact hK _ _ _ rfl ((Grew.refl _).alloc _) (fun _ => ⟨⟨_, rfl⟩, vals_new w5 (ty, wd, n)⟩)
        refine ⟨?_, ?_⟩
        · refine wordP_write 0 rfl ?_
          intro y w5 hW hD K hK
          simp only [depsP, List.getD_cons_zero, List.getD_cons_succ, IsP] at hD
          have h1 := hD.1
          have h2 := hD.2.1
          have h3 := hD.2.2.1
          have h4 := hD.2.2.2.1
          have h5 := hD.2.2.2.2.1
          have h6 := hD.2.2.2.2.2.1
          have h7 := hD.2.2.2.2.2.2.1
          clear hD
          generalize hAA : fillL y _ _ = AA at hK ⊢
          simp only [fillL, Act.put, List.setIfInBounds_toArray, List.set_cons_zero, List.set_cons_succ, List.getD_cons_zero, List.getD_cons_succ, IsP] at hAA
          subst hAA
          simp only [List.getD_cons_zero, List.getD_cons_succ, IsP] at hK
          simp only [h1, h2, h3, h4, h5, h6] at hK ⊢
          clear h1 h2 h3 h4 h5 h6
          obtain ⟨⟨g7, e7⟩, hv7⟩ := h7 (Nat.le_refl _)
          rw [e7] at hK hv7 ⊢
          refine ite_yes (by rfl) ?_
          refine wp_appV1 w5 _ _ rfl (.slice va8 x.vals.length vc8) x.vals rfl (own_grew HO8.out (show Grew wr6 w5 from hW)) _ (ty, wd, n) g7 rfl hv7 rfl (by have := HVS.out; omega) ?_
          intro v' w' ho hgr hnx
          exact hK _ _ _ rfl trivial (Moved.trans (Moved.of_grew (S := fun k => some k = (Value.slice va8 x.vals.length vc8).ownBlock) (show Grew wr6 w5 from hW)) (Moved.of_grown hgr) (fun _ _ e => e)) ⟨ho, fun k hk => (hnx k hk).imp id (fun e => Nat.le_trans (Grew.size (show Grew wr6 w5 from hW)) e)⟩
        refine ⟨?_, ?_⟩
        · refine wordP_read 1 1 (by kernel_rfl) (by kernel_rfl) (by kernel_rfl) ?_
          intro y w5 p hlo hhi hW hD K hK
          simp only [depsP, List.getD_cons_zero, List.getD_cons_succ, IsP] at hD
          have h0 := hD.1
          have h1 := hD.2.1
          have h2 := hD.2.2.1
          have h3 := hD.2.2.2.1
          have h4 := hD.2.2.2.2.1
          have h5 := hD.2.2.2.2.2.1
          have h6 := hD.2.2.2.2.2.2.1
          have h7 := hD.2.2.2.2.2.2.2.1
          have h8 := hD.2.2.2.2.2.2.2.2.1
          clear hD
          generalize hAA : fillL y _ _ = AA at hK ⊢
          simp only [fillL, Act.put, List.setIfInBounds_toArray, List.set_cons_zero, List.set_cons_succ, List.getD_cons_zero, List.getD_cons_succ, IsP] at hAA
          subst hAA
          simp only [List.getD_cons_zero, List.getD_cons_succ, IsP] at hK
          simp only [h0, h1, h2, h3, h4, h5, h6] at hK ⊢
          clear h0 h1 h2 h3 h4 h5 h6
          refine ite_yes (by rfl) ?_
          go_simp
          exact hK _ _ _ rfl (Grew.refl _) rfl
        refine ⟨?_, ?_⟩
        · refine wordP_read 1 1 (by kernel_rfl) (by kernel_rfl) (by kernel_rfl) ?_
          intro y w5 p hlo hhi hW hD K hK
          simp only [depsP, List.getD_cons_zero, List.getD_cons_succ, IsP] at hD
          have h0 := hD.1
          have h1 := hD.2.1
          have h2 := hD.2.2.1
          have h3 := hD.2.2.2.1
          have h4 := hD.2.2.2.2.1
          have h5 := hD.2.2.2.2.2.1
          have h6 := hD.2.2.2.2.2.2.1
          have h7 := hD.2.2.2.2.2.2.2.1
          have h8 := hD.2.2.2.2.2.2.2.2.1
          have h9 := hD.2.2.2.2.2.2.2.2.2.1
          clear hD
          generalize hAA : fillL y _ _ = AA at hK ⊢
          simp only [fillL, Act.put, List.setIfInBounds_toArray, List.set_cons_zero, List.set_cons_succ, List.getD_cons_zero, List.getD_cons_succ, IsP] at hAA
          subst hAA
          simp only [List.getD_cons_zero, List.getD_cons_succ, IsP] at hK
          simp only [h0, h1, h2, h3, h4, h5, h6, h9] at hK ⊢
          clear h0 h1 h2 h3 h4 h5 h6 h9
          refine ite_yes (by rfl) ?_
          go_simp
          exact hK _ _ _ rfl (Grew.refl _) rfl
        refine ⟨?_, ?_⟩
        · refine wordP_read 1 1 (by kernel_rfl) (by kernel_rfl) (by kernel_rfl) ?_
          intro y w5 p hlo hhi hW hD K hK
          simp only [depsP, List.getD_cons_zero, List.getD_cons_succ, IsP] at hD
          have h0 := hD.1
          have h1 := hD.2.1
          have h2 := hD.2.2.1
          have h3 := hD.2.2.2.1
          have h4 := hD.2.2.2.2.1
          have h5 := hD.2.2.2.2.2.1
          have h6 := hD.2.2.2.2.2.2.1
          have h7 := hD.2.2.2.2.2.2.2.1
          have h8 := hD.2.2.2.2.2.2.2.2.1
          have h9 := hD.2.2.2.2.2.2.2.2.2.1
          have h10 := hD.2.2.2.2.2.2.2.2.2.2.1
          clear hD
          generalize hAA : fillL y _ _ = AA at hK ⊢
          simp only [fillL, Act.put, List.setIfInBounds_toArray, List.set_cons_zero, List.set_cons_succ, List.getD_cons_zero, List.getD_cons_succ, IsP] at hAA
          subst hAA
          simp only [List.getD_cons_zero, List.getD_cons_succ, IsP] at hK
          simp only [h0, h1, h2, h3, h4, h5, h6, h9, h10] at hK ⊢
          clear h0 h1 h2 h3 h4 h5 h6 h9 h10
          refine ite_yes (by rfl) ?_
          go_simp
          exact hK _ _ _ rfl (Grew.refl _) rfl
        refine ⟨?_, ?_⟩
        · refine wordP_write 1 rfl ?_
          intro y w5 hW hD K hK
          have hrp : w5.heap[q.p]? = some (rowB q flags (.slice va8 x.vals.length vc8) ({ ({ x with s := s1 } : BS).fail ee with lists := putP list x.vals.length x.lists }).e) := Moved.heap (show Moved _ wr6 w5 from hW) HR8.out (fun e => owns_ne HO8.out HR8.out (by decide) e.symm)
          have dd := row_cellT hrp 8 _ rfl
          have ff := row_frozen hrp 8
          simp only [depsP, List.getD_cons_zero, List.getD_cons_succ, IsP] at hD
          have h0 := hD.1
          have h1 := hD.2.1
          have h2 := hD.2.2.1
          have h3 := hD.2.2.2.1
          have h4 := hD.2.2.2.2.1
          have h5 := hD.2.2.2.2.2.1
          have h6 := hD.2.2.2.2.2.2.1
          have h7 := hD.2.2.2.2.2.2.2.1
          have h8 := hD.2.2.2.2.2.2.2.2.1
          have h9 := hD.2.2.2.2.2.2.2.2.2.1
          have h10 := hD.2.2.2.2.2.2.2.2.2.2.1
          have h11 := hD.2.2.2.2.2.2.2.2.2.2.2.1
          clear hD
          generalize hAA : fillL y _ _ = AA at hK ⊢
          simp only [fillL, Act.put, List.setIfInBounds_toArray, List.set_cons_zero, List.set_cons_succ, List.getD_cons_zero, List.getD_cons_succ, IsP] at hAA
          subst hAA
          simp only [List.getD_cons_zero, List.getD_cons_succ, IsP] at hK
          simp only [h0, h1, h2, h3, h4, h5, h6, h9, h10, h11] at hK ⊢
          clear h0 h1 h2 h3 h4 h5 h6 h9 h10 h11
          have hq : OwnVals w5 0 _ _ ∧ Next wr6 _ _ := h8
          obtain ⟨a8, c8', e8, _⟩ := own_form hq.1
          replace e8 : y 8 = .slice a8 (x.vals.length + 1) c8' := by rw [e8]; simp
          rw [e8] at hK hq ⊢
          clear e8 h8
          refine ite_yes (by rfl) ?_
          go_simp
          exact hK _ undef _ rfl trivial (HE7.out.setVals HR8.out (show Moved _ wr6 w5 from hW) hq.1 hq.2 HLV.out HOV.out) trivial
        trivial
      refine ⟨?_, ?_⟩
      · refine wordP_read 0 0 (by kernel_rfl) (by kernel_rfl) (by kernel_rfl) ?_
        intro y wr6 p hlo hhi hW hD K hK
        have dq := Env.cell hW HN1.out 0 _ rfl
        clear hD
        generalize hAA : fillL y _ _ = AA at hK ⊢
        simp only [fillL, Act.put, List.setIfInBounds_toArray, List.set_cons_zero, List.set_cons_succ, List.getD_cons_zero, List.getD_cons_succ, IsP] at hAA
        subst hAA
        simp only [List.getD_cons_zero, List.getD_cons_succ, IsP] at hK
        refine ite_yes (by rfl) ?_
        go_simp
        exact hK _ _ _ rfl (Grew.refl _) rfl
      refine ⟨?_, ?_⟩
      · refine wordP_read 0 0 (by kernel_rfl) (by kernel_rfl) (by kernel_rfl) ?_
        intro y wr6 p hlo hhi hW hD K hK
        simp only [depsP, List.getD_cons_zero, List.getD_cons_succ, IsP] at hD
        have h0 := hD.1
        clear hD
        generalize hAA : fillL y _ _ = AA at hK ⊢
        simp only [fillL, Act.put, List.setIfInBounds_toArray, List.set_cons_zero, List.set_cons_succ, List.getD_cons_zero, List.getD_cons_succ, IsP] at hAA
        subst hAA
        simp only [List.getD_cons_zero, List.getD_cons_succ, IsP] at hK
        simp only [h0] at hK ⊢
        clear h0
        refine ite_yes (by rfl) ?_
        go_simp
        exact hK _ _ _ rfl (Grew.refl _) rfl
      refine ⟨?_, ?_⟩
      · refine wordP_read 0 0 (by kernel_rfl) (by kernel_rfl) (by kernel_rfl) ?_
        intro y wr6 p hlo hhi hW hD K hK
        simp only [depsP, List.getD_cons_zero, List.getD_cons_succ, IsP] at hD
        have h0 := hD.1
        have h1 := hD.2.1
        clear hD
        generalize hAA : fillL y _ _ = AA at hK ⊢
        simp only [fillL, Act.put, List.setIfInBounds_toArray, List.set_cons_zero, List.set_cons_succ, List.getD_cons_zero, List.getD_cons_succ, IsP] at hAA
        subst hAA
        simp only [List.getD_cons_zero, List.getD_cons_succ, IsP] at hK
        simp only [h0, h1] at hK ⊢
        clear h0 h1
        refine ite_yes (by rfl) ?_
        go_simp
        exact hK _ _ _ rfl (Grew.refl _) rfl
      refine ⟨?_, ?_⟩
      · refine wordP_read 0 0 (by kernel_rfl) (by kernel_rfl) (by kernel_rfl) ?_
        intro y wr6 p hlo hhi hW hD K hK
        simp only [depsP, List.getD_cons_zero, List.getD_cons_succ, IsP] at hD
        have h0 := hD.1
        have h1 := hD.2.1
        have h2 := hD.2.2.1
        clear hD
        generalize hAA : fillL y _ _ = AA at hK ⊢
        simp only [fillL, Act.put, List.setIfInBounds_toArray, List.set_cons_zero, List.set_cons_succ, List.getD_cons_zero, List.getD_cons_succ, IsP] at hAA
        subst hAA
        simp only [List.getD_cons_zero, List.getD_cons_succ, IsP] at hK
        simp only [h0, h1, h2] at hK ⊢
        clear h0 h1 h2
        refine ite_yes (by rfl) ?_
        go_simp
        exact hK _ _ _ rfl (Grew.refl _) rfl
      refine ⟨?_, ?_⟩
      · refine wordP_read 0 0 (by kernel_rfl) (by kernel_rfl) (by kernel_rfl) ?_
        intro y wr6 p hlo hhi hW hD K hK
        have dd := Env.at6 hW
        simp only [depsP, List.getD_cons_zero, List.getD_cons_succ, IsP] at hD
        have h0 := hD.1
        have h1 := hD.2.1
        have h2 := hD.2.2.1
        have h3 := hD.2.2.2.1
        clear hD
        generalize hAA : fillL y _ _ = AA at hK ⊢
        simp only [fillL, Act.put, List.setIfInBounds_toArray, List.set_cons_zero, List.set_cons_succ, List.getD_cons_zero, List.getD_cons_succ, IsP] at hAA
        subst hAA
        simp only [List.getD_cons_zero, List.getD_cons_succ, IsP] at hK
        simp only [h0, h1, h2, h3] at hK ⊢
        clear h0 h1 h2 h3
        refine ite_yes (by rfl) ?_
        go_simp
        exact hK _ _ _ rfl (Grew.refl _) rfl
      refine ⟨?_, ?_⟩
      · refine wordP_read 0 0 (by kernel_rfl) (by kernel_rfl) (by kernel_rfl) ?_
        intro y wr6 p hlo hhi hW hD K hK
        clear hD
        generalize hAA : fillL y _ _ = AA at hK ⊢
        simp only [fillL, Act.put, List.setIfInBounds_toArray, List.set_cons_zero, List.set_cons_succ, List.getD_cons_zero, List.getD_cons_succ, IsP] at hAA
        subst hAA
        simp only [List.getD_cons_zero, List.getD_cons_succ, IsP] at hK
        refine ite_yes (by rfl) ?_
        go_simp
        exact hK _ _ _ rfl (Grew.refl _) rfl
      refine ⟨?_, ?_⟩
      · refine wordP_read 0 0 (by kernel_rfl) (by kernel_rfl) (by kernel_rfl) ?_
        intro y wr6 p hlo hhi hW hD K hK
        have di := Env.cell hW List.mem_cons_self 0 _ rfl
        clear hD
        generalize hAA : fillL y _ _ = AA at hK ⊢
        simp only [fillL, Act.put, List.setIfInBounds_toArray, List.set_cons_zero, List.set_cons_succ, List.getD_cons_zero, List.getD_cons_succ, IsP] at hAA
        subst hAA
        simp only [List.getD_cons_zero, List.getD_cons_succ, IsP] at hK
        refine ite_yes (by rfl) ?_
        go_simp
        exact hK _ _ _ rfl (Grew.refl _) rfl
      refine ⟨?_, ?_⟩
      · refine wordP_write 0 rfl ?_
        intro y wr6 hW hD K hK
        simp only [depsP, List.getD_cons_zero, List.getD_cons_succ, IsP] at hD
        have h0 := hD.1
        have h1 := hD.2.1
        have h2 := hD.2.2.1
        have h3 := hD.2.2.2.1
        have h4 := hD.2.2.2.2.1
        have h5 := hD.2.2.2.2.2.1
        have h6 := hD.2.2.2.2.2.2.1
        clear hD
        generalize hAA : fillL y _ _ = AA at hK ⊢
        simp only [fillL, Act.put, List.setIfInBounds_toArray, List.set_cons_zero, List.set_cons_succ, List.getD_cons_zero, List.getD_cons_succ, IsP] at hAA
        subst hAA
        simp only [List.getD_cons_zero, List.getD_cons_succ, IsP] at hK
        simp only [h0, h1, h2, h3, h4, h5, h6] at hK ⊢
        clear h0 h1 h2 h3 h4 h5 h6
        refine ite_yes (by rfl) ?_
        go_simp
        refine (Env.listsPut (x := ({ x with s := s1 } : BS).fail ee) list (x.vals.length : Int) HLS.out hW).mono ?_
        rintro r w3 ⟨rfl, he⟩
        exact hK _ _ _ rfl trivial he rfl
      trivial
    | true =>
      have HO := Lib.hid ho
      have HTE2 : Hid (x.table most (onF flags 4) list keys vals = x.tableEnd most ga vals) := by have h := HTE.out; show _ = _; rw [ho] at h ⊢; simpa using h
      clear ho
      go_wp2_with fail
      generalize (w2.alloc (.cells #[.int .i64 ga] 3)) = w3 at *
      refine (HB1.out.onE 4).mono ?_
      rw [HO.out]
      rintro r w9 ⟨rfl, hw9⟩
      obtain rfl : w3 = w9 := hw9.symm
      have hix := HIX.out trivial
      obtain ⟨i, hi1, hi2⟩ := hix
      subst hi1
      have HI := Lib.hid hi2
      clear hi2
      have HB2 := HB1
      go_wp2_with fail
      have HT : Hid (∀ κ1 wz, Tn κ κ1 w wz → Env B q most flags wz κ1 (((w2.heap.size, Obj.cells #[.int .i64 i] 3 (0, 0)) :: [(w.heap.size + 1, Obj.cells #[.slice va vals.length vc] 51 (0, 0)), (w.heap.size, Obj.cells #[bptr q.p] 23 (0, 0))])) (x) wz → (x).e = 0 → Calls Tryz.prog 167 #[.pointer (some ⟨w.heap.size, 0, none⟩), .pointer (some ⟨w2.heap.size, 0, none⟩), .pointer (some ⟨w.heap.size + 1, 0, none⟩)] wz fun r w' => r = .returned (.tuple #[]) ∧ TurnX B q most flags κ1 ((x).tableEnd most i vals) wz w') := fun κ1 wz ht he he0 => HT1.out _ (i) κ1 wz _ _ _ HG.out he0 (HI.out) ht (he.mono (fun z hz => by simp only [List.mem_cons, List.not_mem_nil, or_false] at hz ⊢; rcases hz with rfl | rfl | rfl <;> simp))
      refine (HB2.out.callT fun κ1 hb ht he => unless_any hb _ _ ((x).tableEnd most i vals) (fun hne => by unfold BS.tableEnd; rw [if_neg hne]) (fun _ => enters_of Tryz.func167 (by kernel_rfl) rfl _ _) (fun he0 => HT.out κ1 _ ht he he0)).mono ?_
      rintro r w9 ⟨rfl, he⟩
      have HF := Lib.hid he
      clear he
      go_wp2
      go_end0
      exact ⟨rfl, by rw [HTE2.out]; exact HF.out.turn⟩
end Go.Proofs.YtjnpcddbgfmpcaaGreat

/-
  The law's calls on a builder, plain.
-/
namespace Go.Proofs.YtjnpcddbgfmpcaaGreat
open Go Go.ChangeShapes Go.WideShapes Go.ChangeAt Go.RowKit Go.Joins Go.Deep
open Go.Proofs.YtjnpcddbgfmpcaaGreat.Ft (V3 vV okV ValsAt inlineB legalB packF codeF typedF allF)
set_option linter.unusedVariables false
set_option linter.unusedSimpArgs false
structure DoB where
  kind : Int
  start : Int
  n : Int
  u : Int
  s : ByteArray
  l : List Int
  t : List ByteArray
def DoB.ints (d : DoB) : List Int := d.l.take 40
def DoB.uints (d : DoB) : List Int := (d.l.take 40).map (· % 18446744073709551616)
def DoB.bools (d : DoB) : List Bool := (d.l.take 40).map fun v => decide (v % 2 ≠ 0)
def DoB.from_ (d : DoB) (many : Nat) : Int := if d.u % 8 = 7 then d.start else d.start % (many + 1)
def noOut : List UInt8 × Int := ([], 0)
def doB (most flags : Int) (d : DoB) (x : BS) : (List UInt8 × Int) × BS :=
  if d.kind % 18 = 0 then (noOut, x.inline (0, 1, 0))
  else if d.kind % 18 = 1 then (noOut, x.inline (truthV (decide (d.n % 2 ≠ 0))))
  else if d.kind % 18 = 2 then (noOut, x.inline (numV d.n))
  else if d.kind % 18 = 3 then (noOut, x.inline (unsV d.u))
  else if d.kind % 18 = 4 then (noOut, x.apart most 6 (numV d.n))
  else if d.kind % 18 = 5 then (noOut, x.apart most 7 (unsV d.u))
  else if d.kind % 18 = 6 then (noOut, x.key most (onF flags 1) (shortS d.s 60))
  else if d.kind % 18 = 7 then (noOut, x.str most (onF flags 2) (shortS d.s 60))
  else if d.kind % 18 = 8 then (noOut, x.blob most (shortS d.s 60))
  else if d.kind % 18 = 9 then (noOut, x.vector most 1 0 (d.ints.map numV))
  else if d.kind % 18 = 10 then (noOut, x.vector most 2 0 (d.uints.map unsV))
  else if d.kind % 18 = 11 then (noOut, x.vector most 26 0 (d.bools.map truthV))
  else if d.kind % 18 = 12 then (noOut, x.keyVec most (onF flags 1) (textsS d.t 20 60))
  else if d.kind % 18 = 13 then (noOut, x.fixed most 1 (d.ints.map numV))
  else if d.kind % 18 = 14 then (noOut, x.fixed most 2 (d.uints.map unsV))
  else if d.kind % 18 = 15 then (noOut, x.endVec most (d.from_ x.stk.length))
  else if d.kind % 18 = 16 then (noOut, x.endMap most (onF flags 4) (d.from_ x.stk.length))
  else x.finish most
def BS.new : BS := ⟨([], 0), 0, [], [], [], [], [], []⟩
def doAll (most flags : Int) (l : List DoB) (x : BS) : BS := l.foldl (fun x d => (doB most flags d x).2) x
def madeF (flags : Int) (want : ByteArray) (e : Int) (l : List DoB) : Bool :=
  decide ((⟨((doAll 1000 flags l BS.new).finish 1000).1.1.toArray⟩ : ByteArray) = want) && decide (((doAll 1000 flags l BS.new).finish 1000).1.2 = e)
theorem fail_stuck {x : BS} {e : Int} (h : x.e ≠ 0) : x.fail e = x := by unfold BS.fail failS; rw [if_neg h]
theorem failS_ne {a b : Int} (h : b ≠ 0) : failS a b ≠ 0 := by
  unfold failS
  split
  · exact h
  · assumption
def Stuck (x : BS) (r : (List UInt8 × Int) × BS) : Prop := r.2.e = x.e ∧ r.2.stk = x.stk ∧ r.1.1 = [] ∧ (r.1.2 = 0 ∨ r.1.2 = x.e)
theorem finish_stuck {most : Int} {x : BS} (h : x.e ≠ 0) : Stuck x (x.finish most) := by
  have h0 : (if x.stk.length ≠ 1 then x.fail 140 else x) = x := by
    split
    · exact fail_stuck h
    · rfl
  unfold BS.finish Stuck
  simp only [h0, if_pos h]
  exact ⟨trivial, trivial, trivial, .inr trivial⟩
theorem ite_ind {α : Type} {c : Prop} [Decidable c] {P : α → Prop} {a b : α} (ha : P a) (hb : P b) : P (if c then a else b) := by
  split
  · exact ha
  · exact hb
theorem doB_stuck {most flags : Int} {d : DoB} {x : BS} (h : x.e ≠ 0) : Stuck x (doB most flags d x) := by
  unfold doB
  refine ite_ind (P := Stuck x) ?_ (ite_ind (P := Stuck x) ?_ (ite_ind (P := Stuck x) ?_ (ite_ind (P := Stuck x) ?_ (ite_ind (P := Stuck x) ?_ (ite_ind (P := Stuck x) ?_ (ite_ind (P := Stuck x) ?_ (ite_ind (P := Stuck x) ?_ (ite_ind (P := Stuck x) ?_ (ite_ind (P := Stuck x) ?_ (ite_ind (P := Stuck x) ?_ (ite_ind (P := Stuck x) ?_ (ite_ind (P := Stuck x) ?_ (ite_ind (P := Stuck x) ?_ (ite_ind (P := Stuck x) ?_ (ite_ind (P := Stuck x) ?_ (ite_ind (P := Stuck x) ?_ (?_)))))))))))))))))
  · exact ⟨by simp [BS.inline, h], by simp [BS.inline, h], rfl, .inl rfl⟩
  · exact ⟨by simp [BS.inline, h], by simp [BS.inline, h], rfl, .inl rfl⟩
  · exact ⟨by simp [BS.inline, h], by simp [BS.inline, h], rfl, .inl rfl⟩
  · exact ⟨by simp [BS.inline, h], by simp [BS.inline, h], rfl, .inl rfl⟩
  · exact ⟨by simp [BS.apart, h], by simp [BS.apart, h], rfl, .inl rfl⟩
  · exact ⟨by simp [BS.apart, h], by simp [BS.apart, h], rfl, .inl rfl⟩
  · exact ⟨by simp [BS.key, h], by simp [BS.key, h], rfl, .inl rfl⟩
  · exact ⟨by simp [BS.str, h], by simp [BS.str, h], rfl, .inl rfl⟩
  · exact ⟨by simp [BS.blob, h], by simp [BS.blob, h], rfl, .inl rfl⟩
  · exact ⟨by simp [BS.vector, h], by simp [BS.vector, h], rfl, .inl rfl⟩
  · exact ⟨by simp [BS.vector, h], by simp [BS.vector, h], rfl, .inl rfl⟩
  · exact ⟨by simp [BS.vector, h], by simp [BS.vector, h], rfl, .inl rfl⟩
  · exact ⟨by simp [BS.keyVec, h], by simp [BS.keyVec, h], rfl, .inl rfl⟩
  · exact ⟨by simp [BS.fixed, h], by simp [BS.fixed, h], rfl, .inl rfl⟩
  · exact ⟨by simp [BS.fixed, h], by simp [BS.fixed, h], rfl, .inl rfl⟩
  · exact ⟨by simp [BS.endVec, h], by simp [BS.endVec, h], rfl, .inl rfl⟩
  · exact ⟨by simp [BS.endMap, h], by simp [BS.endMap, h], rfl, .inl rfl⟩
  · exact finish_stuck h
theorem finish_err {most : Int} {x : BS} : (x.finish most).2.e ≠ 0 := by
  unfold BS.finish
  dsimp only
  generalize (if x.stk.length ≠ 1 then x.fail 140 else x) = x0
  by_cases h : x0.e ≠ 0
  · rw [if_pos h]; exact h
  · rw [if_neg h]; exact failS_ne (by decide)
theorem BS.Good.finish {most : Int} {x : BS} : (x.finish most).2.Good := BS.Good.stuck finish_err
theorem BS.Good.doB {most flags : Int} {d : DoB} {x : BS} (h : x.Good) : (doB most flags d x).2.Good := by
  unfold Go.Proofs.YtjnpcddbgfmpcaaGreat.doB
  refine ite_ind (P := fun r : (List UInt8 × Int) × BS => r.2.Good) ?_ (ite_ind (P := fun r : (List UInt8 × Int) × BS => r.2.Good) ?_ (ite_ind (P := fun r : (List UInt8 × Int) × BS => r.2.Good) ?_ (ite_ind (P := fun r : (List UInt8 × Int) × BS => r.2.Good) ?_ (ite_ind (P := fun r : (List UInt8 × Int) × BS => r.2.Good) ?_ (ite_ind (P := fun r : (List UInt8 × Int) × BS => r.2.Good) ?_ (ite_ind (P := fun r : (List UInt8 × Int) × BS => r.2.Good) ?_ (ite_ind (P := fun r : (List UInt8 × Int) × BS => r.2.Good) ?_ (ite_ind (P := fun r : (List UInt8 × Int) × BS => r.2.Good) ?_ (ite_ind (P := fun r : (List UInt8 × Int) × BS => r.2.Good) ?_ (ite_ind (P := fun r : (List UInt8 × Int) × BS => r.2.Good) ?_ (ite_ind (P := fun r : (List UInt8 × Int) × BS => r.2.Good) ?_ (ite_ind (P := fun r : (List UInt8 × Int) × BS => r.2.Good) ?_ (ite_ind (P := fun r : (List UInt8 × Int) × BS => r.2.Good) ?_ (ite_ind (P := fun r : (List UInt8 × Int) × BS => r.2.Good) ?_ (ite_ind (P := fun r : (List UInt8 × Int) × BS => r.2.Good) ?_ (ite_ind (P := fun r : (List UInt8 × Int) × BS => r.2.Good) ?_ (?_)))))))))))))))))
  · exact h.inline
  · exact h.inline
  · exact h.inline
  · exact h.inline
  · exact h.apart
  · exact h.apart
  · exact h.key
  · exact h.str
  · exact h.blob
  · exact h.vector
  · exact h.vector
  · exact h.vector
  · exact h.keyVec
  · exact h.fixed
  · exact h.fixed
  · exact h.endVec
  · exact h.endMap
  · exact BS.Good.finish
theorem BS.Good.new : BS.new.Good := ⟨fun _ => rfl, fun _ z hz => absurd hz List.not_mem_nil, fun _ => Nat.le_refl _, fun _ => Nat.le_refl _, fun _ => Nat.le_refl _, fun _ => Nat.le_refl _, fun _ z hz => absurd hz List.not_mem_nil, fun _ z hz => absurd hz List.not_mem_nil⟩
theorem outS_len (s : St) : (outS s).length ≤ s.1.length := by
  unfold outS
  split
  · exact Nat.le_refl _
  · exact Nat.zero_le _
theorem finish_len {most : Int} {x : BS} (h0 : 0 ≤ most) (h : (x.s.1.length : Int) ≤ most) : ((x.finish most).1.1.length : Int) ≤ most := by
  unfold BS.finish
  dsimp only
  generalize (if x.stk.length ≠ 1 then x.fail 140 else x) = x0
  by_cases hx : x0.e ≠ 0
  · rw [if_pos hx]; exact h0
  · rw [if_neg hx]
    dsimp only
    refine Int.le_trans (Int.ofNat_le.2 (outS_len _)) ?_
    exact putS_le (numS_le (alignS_le h))
theorem doB_len {most flags : Int} {d : DoB} {x : BS} (h0 : 0 ≤ most) (h : (x.s.1.length : Int) ≤ most) : ((doB most flags d x).1.1.length : Int) ≤ most := by
  unfold doB
  refine ite_ind (P := fun r : (List UInt8 × Int) × BS => (r.1.1.length : Int) ≤ most) ?_ (ite_ind (P := fun r : (List UInt8 × Int) × BS => (r.1.1.length : Int) ≤ most) ?_ (ite_ind (P := fun r : (List UInt8 × Int) × BS => (r.1.1.length : Int) ≤ most) ?_ (ite_ind (P := fun r : (List UInt8 × Int) × BS => (r.1.1.length : Int) ≤ most) ?_ (ite_ind (P := fun r : (List UInt8 × Int) × BS => (r.1.1.length : Int) ≤ most) ?_ (ite_ind (P := fun r : (List UInt8 × Int) × BS => (r.1.1.length : Int) ≤ most) ?_ (ite_ind (P := fun r : (List UInt8 × Int) × BS => (r.1.1.length : Int) ≤ most) ?_ (ite_ind (P := fun r : (List UInt8 × Int) × BS => (r.1.1.length : Int) ≤ most) ?_ (ite_ind (P := fun r : (List UInt8 × Int) × BS => (r.1.1.length : Int) ≤ most) ?_ (ite_ind (P := fun r : (List UInt8 × Int) × BS => (r.1.1.length : Int) ≤ most) ?_ (ite_ind (P := fun r : (List UInt8 × Int) × BS => (r.1.1.length : Int) ≤ most) ?_ (ite_ind (P := fun r : (List UInt8 × Int) × BS => (r.1.1.length : Int) ≤ most) ?_ (ite_ind (P := fun r : (List UInt8 × Int) × BS => (r.1.1.length : Int) ≤ most) ?_ (ite_ind (P := fun r : (List UInt8 × Int) × BS => (r.1.1.length : Int) ≤ most) ?_ (ite_ind (P := fun r : (List UInt8 × Int) × BS => (r.1.1.length : Int) ≤ most) ?_ (ite_ind (P := fun r : (List UInt8 × Int) × BS => (r.1.1.length : Int) ≤ most) ?_ (ite_ind (P := fun r : (List UInt8 × Int) × BS => (r.1.1.length : Int) ≤ most) ?_ (?_)))))))))))))))))
  · exact h0
  · exact h0
  · exact h0
  · exact h0
  · exact h0
  · exact h0
  · exact h0
  · exact h0
  · exact h0
  · exact h0
  · exact h0
  · exact h0
  · exact h0
  · exact h0
  · exact h0
  · exact h0
  · exact h0
  · exact finish_len h0 h
end Go.Proofs.YtjnpcddbgfmpcaaGreat

/-
  Several builders side by side, with blocks kept beside them. Conditions: each lies in blocks of its own.
-/
namespace Go.Proofs.YtjnpcddbgfmpcaaGreat
open Go Go.ChangeShapes Go.WideShapes Go.ChangeAt Go.RowKit Go.Joins Go.Deep
open Go.Proofs.YtjnpcddbgfmpcaaGreat.Ft (V3 vV okV ValsAt inlineB legalB packF codeF typedF allF)
set_option linter.unusedVariables false
set_option linter.unusedSimpArgs false
structure BRec where
  q : Ptrs
  most : Int
  flags : Int
  x : BS
def Lv (w0 : World) (R : List BRec) (Kp : List (Nat × Obj)) (w : World) : Prop :=
  ∃ κ : Nat → Nat → Nat, (∀ i r, R[i]? = some r → Bd w0.heap.size r.q r.most r.flags (κ i) r.x w) ∧ (∀ i j k, i < R.length → j < R.length → i ≠ j → κ i k ≠ 0 → κ j k = 0) ∧ (∀ z ∈ Kp, w.heap[z.1]? = some z.2 ∧ ∀ i, i < R.length → κ i z.1 = 0) ∧ Below w0.heap.size w0 w
section
variable {w0 w w' : World} {R : List BRec} {Kp : List (Nat × Obj)}
theorem Lv.nil (w0 : World) : Lv w0 [] [] w0 := ⟨fun _ _ => 0, fun i r h => by simp at h, fun i j k h => by simp at h, fun z h => by simp at h, Below.refl _ _⟩
theorem Lv.below (h : Lv w0 R Kp w) : Below w0.heap.size w0 w := by obtain ⟨_, _, _, _, h⟩ := h; exact h
theorem Lv.kp (h : Lv w0 R Kp w) {n : Nat} {o : Obj} (hm : (n, o) ∈ Kp) : w.heap[n]? = some o := by obtain ⟨κ, _, _, h3, _⟩ := h; exact (h3 _ hm).1
theorem Lv.grew (h : Lv w0 R Kp w) (hg : Grew w w') : Lv w0 R Kp w' := by
  obtain ⟨κ, h1, h2, h3, h4⟩ := h
  exact ⟨κ, fun i r hr => (h1 i r hr).grew hg, h2, fun z hz => ⟨hg.heap (h3 z hz).1, (h3 z hz).2⟩, Below.trans h4 (Below.mono hg h4.size)⟩
theorem Lv.keep (h : Lv w0 R Kp w) (hg : Grew w w') {n : Nat} {o : Obj} (hn : w.heap.size ≤ n) (ho : w'.heap[n]? = some o) : Lv w0 R ((n, o) :: Kp) w' := by
  obtain ⟨κ, h1, h2, h3, h4⟩ := h
  refine ⟨κ, fun i r hr => (h1 i r hr).grew hg, h2, fun z hz => ?_, Below.trans h4 (Below.mono hg h4.size)⟩
  rcases List.mem_cons.1 hz with rfl | hz
  · refine ⟨ho, fun i hi => Decidable.byContradiction fun hk => ?_⟩
    have := ((h1 i _ (List.getElem?_eq_getElem hi)).lt n hk).2
    omega
  · exact ⟨hg.heap (h3 z hz).1, (h3 z hz).2⟩
theorem Lv.drop {z : Nat × Obj} (h : Lv w0 R (z :: Kp) w) : Lv w0 R Kp w := by
  obtain ⟨κ, h1, h2, h3, h4⟩ := h
  exact ⟨κ, h1, h2, fun z hz => h3 z (List.mem_cons_of_mem _ hz), h4⟩
theorem Lv.add (h : Lv w0 R Kp w) (o : Obj) : Lv w0 R ((w.heap.size, o) :: Kp) (w.alloc o) := h.keep ((Grew.refl w).alloc o) (Nat.le_refl _) (heap_alloc_new w o)
theorem Lv.bd (h : Lv w0 R Kp w) {i : Nat} {r : BRec} (hr : R[i]? = some r) : ∃ κ, Bd w0.heap.size r.q r.most r.flags κ r.x w := by
  obtain ⟨κ, h1, _⟩ := h
  exact ⟨κ i, h1 i r hr⟩
theorem Lv.ok (h : Lv w0 R Kp w) {i : Nat} {r : BRec} (hr : R[i]? = some r) : r.x.Ok r.most := by obtain ⟨κ, hb⟩ := h.bd hr; exact hb.ok
theorem Bd.moved {B : Nat} {q : Ptrs} {most flags : Int} {κ : Nat → Nat} {x : BS} {S : Nat → Prop} (h : Bd B q most flags κ x w) (hm : Moved S w w') (hd : ∀ k, κ k ≠ 0 → ¬ S k) : Bd B q most flags κ x w' :=
  have hdc : ∀ c, c ≠ 0 → ∀ k, κ k = c → ¬ S k := fun c hc k hk => hd k (by rw [hk]; exact hc)
  ⟨fun k hk => ⟨(h.lt k hk).1, Nat.lt_of_lt_of_le (h.lt k hk).2 hm.size⟩, h.ok, h.self.kept hm (hdc 1 (by decide)), h.buf.kept hm (hdc 2 (by decide)), h.stk.kept hm (hdc 3 (by decide)), h.keys.kept hm (hdc 4 (by decide)), h.texts.kept hm (hdc 5 (by decide)), h.lists.kept hm (hdc 6 (by decide)), h.names.kept hm (hdc 7 (by decide))⟩
theorem Lv.turn1 {κ : Nat → Nat → Nat} (h1 : ∀ i r, R[i]? = some r → Bd w0.heap.size r.q r.most r.flags (κ i) r.x w) (h2 : ∀ i j k, i < R.length → j < R.length → i ≠ j → κ i k ≠ 0 → κ j k = 0) (h3 : ∀ z ∈ Kp, w.heap[z.1]? = some z.2 ∧ ∀ i, i < R.length → κ i z.1 = 0) (h4 : Below w0.heap.size w0 w)
    {i : Nat} {r : BRec} {x' : BS} {Z : List (Nat × Obj)} (hr : R[i]? = some r) (hc : ∃ κ', Bd w0.heap.size r.q r.most r.flags κ' x' w' ∧ Tn (κ i) κ' w w' ∧ ∀ z ∈ Z, w.heap.size ≤ z.1 ∧ w'.heap[z.1]? = some z.2 ∧ κ' z.1 = 0) : Lv w0 (R.set i { r with x := x' }) (Z ++ Kp) w' := by
  have hi : i < R.length := (List.getElem?_eq_some_iff.1 hr).1
  obtain ⟨κ', k1, k2, k3⟩ := hc
  have hnew : ∀ k, κ' k ≠ 0 → κ i k ≠ 0 ∨ w.heap.size ≤ k := fun k hk => by
    by_cases hl : k < w.heap.size
    · exact .inl (by rwa [k2.2 k hl] at hk)
    · exact .inr (by omega)
  have hlt : ∀ j, j < R.length → ∀ k, κ j k ≠ 0 → k < w.heap.size := fun j hj k hk => ((h1 j _ (List.getElem?_eq_getElem hj)).lt k hk).2
  have hoth : ∀ j, j < R.length → j ≠ i → ∀ k, κ j k ≠ 0 → ¬ κ i k ≠ 0 := fun j hj hne k hk e => hk (h2 i j k hi hj (fun e => hne e.symm) e)
  refine ⟨fun j => if j = i then κ' else κ j, fun j s hs => ?_, fun a b k ha hb hab hk => ?_, fun z hz => ⟨?_, fun j hj => ?_⟩, ?_⟩
  · by_cases e : j = i
    · subst e
      rw [List.getElem?_set_self hi] at hs
      cases hs
      simpa using k1
    · rw [List.getElem?_set_ne (fun h => e h.symm)] at hs
      have hj : j < R.length := (List.getElem?_eq_some_iff.1 hs).1
      simp only [if_neg e]
      exact (h1 j s hs).moved k2.1 (hoth j hj e)
  · rw [List.length_set] at ha hb
    dsimp only at hk ⊢
    by_cases ea : a = i
    · subst ea
      rw [if_pos rfl] at hk
      rw [if_neg (fun h => hab h.symm)]
      rcases hnew k hk with e | e
      · exact h2 a b k ha hb hab e
      · exact Decidable.byContradiction fun hz => by have := hlt b hb k hz; omega
    · rw [if_neg ea] at hk
      by_cases eb : b = i
      · subst eb
        rw [if_pos rfl]
        refine Decidable.byContradiction fun hz => ?_
        rcases hnew k hz with e | e
        · exact hoth a ha ea k hk e
        · have := hlt a ha k hk; omega
      · rw [if_neg eb]
        exact h2 a b k ha hb hab hk
  · rcases List.mem_append.1 hz with hz | hz
    · exact (k3 z hz).2.1
    · exact k2.1.heap (h3 z hz).1 (fun e => e ((h3 z hz).2 i hi))
  · rw [List.length_set] at hj
    dsimp only
    rcases List.mem_append.1 hz with hz | hz
    · by_cases e : j = i
      · rw [if_pos e]; exact (k3 z hz).2.2
      · rw [if_neg e]
        exact Decidable.byContradiction fun hk => by have := hlt j hj z.1 hk; have := (k3 z hz).1; omega
    · by_cases e : j = i
      · rw [if_pos e, k2.2 _ (Array.getElem?_eq_some_iff.1 (h3 z hz).1).1]
        exact (h3 z hz).2 i hi
      · rw [if_neg e]
        exact (h3 z hz).2 j hj
  · exact Below.trans h4 (k2.1.below h4.size (fun k hk => ((h1 i r hr).lt k hk).1))
theorem Lv.call (h : Lv w0 R Kp w) (i : Nat) {r : BRec} {x' : BS} {f : Nat} {args : Array Value} {P : Ending → Prop} (hr : R[i]? = some r) (hc : ∀ κ, Bd w0.heap.size r.q r.most r.flags κ r.x w → (∀ z ∈ Kp, κ z.1 = 0) → Calls Tryz.prog f args w fun e w' => P e ∧ TurnX w0.heap.size r.q r.most r.flags κ x' w w') :
    Calls Tryz.prog f args w fun e w' => P e ∧ Lv w0 (R.set i { r with x := x' }) Kp w' := by
  have h' := h
  obtain ⟨κ, h1, h2, h3, h4⟩ := h
  have hi : i < R.length := (List.getElem?_eq_some_iff.1 hr).1
  refine (hc (κ i) (h1 i r hr) (fun z hz => (h3 z hz).2 i hi)).mono fun e w' he => ⟨he.1, ?_⟩
  obtain ⟨κ', k1, k2⟩ := he.2
  have hL : Lv w0 R Kp w := ⟨κ, h1, h2, h3, h4⟩
  have := Lv.turn1 h1 h2 h3 h4 (Z := []) hr ⟨κ', k1, k2, fun z hz => by cases hz⟩
  exact this
end
end Go.Proofs.YtjnpcddbgfmpcaaGreat
